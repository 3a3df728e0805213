/- SHA-256 over numbers, for the kernel; no statement of the seat is proved here. -/
import Derived.Test.YtahdekllphehkaaDoorA7
set_option linter.unusedVariables false
set_option linter.unusedSimpArgs false
namespace Go.Spec
open Go.WL

@[reducible] def force {α : Type} (n : Nat) (f : Nat → α) : α := Nat.rec (f 0) (fun m _ => f (Nat.succ m)) n
theorem force_eq {α : Type} (n : Nat) (f : Nat → α) : force n f = f n := by cases n <;> rfl
def rotN (x k : Nat) : Nat := Nat.lor (Nat.shiftRight x k) (Nat.land (Nat.shiftLeft x (32 - k)) 0xffffffff)
def s0N (x : Nat) := Nat.xor (Nat.xor (rotN x 7) (rotN x 18)) (Nat.shiftRight x 3)
def s1N (x : Nat) := Nat.xor (Nat.xor (rotN x 17) (rotN x 19)) (Nat.shiftRight x 10)
def b0N (x : Nat) := Nat.xor (Nat.xor (rotN x 2) (rotN x 13)) (rotN x 22)
def b1N (x : Nat) := Nat.xor (Nat.xor (rotN x 6) (rotN x 11)) (rotN x 25)
def runN (F : (a b c d e f g h : Nat) → Nat) : List Nat → (a b c d e f g h : Nat) → (w0 w1 w2 w3 w4 w5 w6 w7 w8 w9 w10 w11 w12 w13 w14 w15 : Nat) → Nat
  | [], a, b, c, d, e, f, g, h, _, _, _, _, _, _, _, _, _, _, _, _, _, _, _, _ => F a b c d e f g h
  | k :: ks, a, b, c, d, e, f, g, h, w0, w1, w2, w3, w4, w5, w6, w7, w8, w9, w10, w11, w12, w13, w14, w15 =>
    force (Nat.add (Nat.add (Nat.add h (b1N e)) (Nat.xor (Nat.land e f) (Nat.land (Nat.xor e 0xffffffff) g))) (Nat.add k w0)) fun t =>
    force (Nat.land (Nat.add t (Nat.add (b0N a) (Nat.xor (Nat.xor (Nat.land a b) (Nat.land a c)) (Nat.land b c)))) 0xffffffff) fun a' =>
    force (Nat.land (Nat.add d t) 0xffffffff) fun e' =>
    force (Nat.land (Nat.add (Nat.add w0 (s0N w1)) (Nat.add w9 (s1N w14))) 0xffffffff) fun w16 =>
    runN F ks a' a b c e' e f g w1 w2 w3 w4 w5 w6 w7 w8 w9 w10 w11 w12 w13 w14 w15 w16

theorem land32 (x : Nat) : Nat.land x 0xffffffff = x % 4294967296 := Nat.and_two_pow_sub_one_eq_mod x 32
theorem rotN_eq (x : UInt32) (k : Nat) (h1 : 1 ≤ k) (h2 : k < 32) : rotN x.toNat k = (rot x k).toNat := by
  unfold rotN rot
  rw [land32]
  show x.toNat >>> k ||| (x.toNat <<< (32 - k)) % 4294967296 = _
  have e1 : k % 4294967296 % 32 = k := by omega
  have e2 : (32 - k) % 4294967296 % 32 = 32 - k := by omega
  simp [UInt32.toNat_or, UInt32.toNat_shiftRight, UInt32.toNat_shiftLeft, e1, e2]
theorem s0N_eq (x : UInt32) : s0N x.toNat = (sg0 x).toNat := by
  unfold s0N sg0
  rw [rotN_eq x 7 (by decide) (by decide), rotN_eq x 18 (by decide) (by decide)]
  simp only [UInt32.toNat_xor, UInt32.toNat_shiftRight]
  rfl
theorem s1N_eq (x : UInt32) : s1N x.toNat = (sg1 x).toNat := by
  unfold s1N sg1
  rw [rotN_eq x 17 (by decide) (by decide), rotN_eq x 19 (by decide) (by decide)]
  simp only [UInt32.toNat_xor, UInt32.toNat_shiftRight]
  rfl
/-- The rounds over a window of the schedule. -/
def runU : List UInt32 → S8 → (w0 w1 w2 w3 w4 w5 w6 w7 w8 w9 w10 w11 w12 w13 w14 w15 : UInt32) → S8
  | [], v, _, _, _, _, _, _, _, _, _, _, _, _, _, _, _, _ => v
  | k :: ks, v, w0, w1, w2, w3, w4, w5, w6, w7, w8, w9, w10, w11, w12, w13, w14, w15 =>
    runU ks (step8 v k w0) w1 w2 w3 w4 w5 w6 w7 w8 w9 w10 w11 w12 w13 w14 w15 (w0 + w9 + sg0 w1 + sg1 w14)
theorem runN_eq (F : (a b c d e f g h : Nat) → Nat) (ks : List UInt32) : ∀ (v : S8) (w0 w1 w2 w3 w4 w5 w6 w7 w8 w9 w10 w11 w12 w13 w14 w15 : UInt32),
    runN F (ks.map UInt32.toNat) v.a.toNat v.b.toNat v.c.toNat v.d.toNat v.e.toNat v.f.toNat v.g.toNat v.h.toNat w0.toNat w1.toNat w2.toNat w3.toNat w4.toNat w5.toNat w6.toNat w7.toNat w8.toNat w9.toNat w10.toNat w11.toNat w12.toNat w13.toNat w14.toNat w15.toNat =
      (fun r : S8 => F r.a.toNat r.b.toNat r.c.toNat r.d.toNat r.e.toNat r.f.toNat r.g.toNat r.h.toNat) (runU ks v w0 w1 w2 w3 w4 w5 w6 w7 w8 w9 w10 w11 w12 w13 w14 w15) := by
  induction ks with
  | nil => intros; rfl
  | cons k ks ih =>
    intro v w0 w1 w2 w3 w4 w5 w6 w7 w8 w9 w10 w11 w12 w13 w14 w15
    rw [List.map_cons, runN, runU]
    simp only [force_eq]
    have hS1 : b1N v.e.toNat = (rot v.e 6 ^^^ rot v.e 11 ^^^ rot v.e 25).toNat := by
      unfold b1N
      rw [rotN_eq _ 6 (by decide) (by decide), rotN_eq _ 11 (by decide) (by decide), rotN_eq _ 25 (by decide) (by decide)]
      simp only [UInt32.toNat_xor]; rfl
    have hS0 : b0N v.a.toNat = (rot v.a 2 ^^^ rot v.a 13 ^^^ rot v.a 22).toNat := by
      unfold b0N
      rw [rotN_eq _ 2 (by decide) (by decide), rotN_eq _ 13 (by decide) (by decide), rotN_eq _ 22 (by decide) (by decide)]
      simp only [UInt32.toNat_xor]; rfl
    have hch : Nat.xor (Nat.land v.e.toNat v.f.toNat) (Nat.land (Nat.xor v.e.toNat 0xffffffff) v.g.toNat) = (v.e &&& v.f ^^^ (v.e ^^^ 4294967295) &&& v.g).toNat := by
      simp only [UInt32.toNat_xor, UInt32.toNat_and]; rfl
    have hmaj : Nat.xor (Nat.xor (Nat.land v.a.toNat v.b.toNat) (Nat.land v.a.toNat v.c.toNat)) (Nat.land v.b.toNat v.c.toNat) = (v.a &&& v.b ^^^ v.a &&& v.c ^^^ v.b &&& v.c).toNat := by
      simp only [UInt32.toNat_xor, UInt32.toNat_and]; rfl
    rw [hS1, hS0, hch, hmaj, s0N_eq, s1N_eq]
    obtain ⟨S1, h1⟩ : ∃ S1, S1 = rot v.e 6 ^^^ rot v.e 11 ^^^ rot v.e 25 := ⟨_, rfl⟩
    obtain ⟨S0, h0⟩ : ∃ S0, S0 = rot v.a 2 ^^^ rot v.a 13 ^^^ rot v.a 22 := ⟨_, rfl⟩
    obtain ⟨ch, hc⟩ : ∃ ch, ch = v.e &&& v.f ^^^ (v.e ^^^ 4294967295) &&& v.g := ⟨_, rfl⟩
    obtain ⟨mj, hj⟩ : ∃ mj, mj = v.a &&& v.b ^^^ v.a &&& v.c ^^^ v.b &&& v.c := ⟨_, rfl⟩
    rw [← h1, ← h0, ← hc, ← hj]
    have eT : tOf v k w0 = v.h + S1 + ch + k + w0 := by rw [h1, hc]; rfl
    have eU : uOf v = S0 + mj := by rw [h0, hj]; rfl
    have ea : Nat.land (Nat.add (Nat.add (Nat.add (Nat.add v.h.toNat S1.toNat) ch.toNat) (Nat.add k.toNat w0.toNat)) (Nat.add S0.toNat mj.toNat)) 0xffffffff = (step8 v k w0).a.toNat := by
      show _ = (tOf v k w0 + uOf v).toNat
      rw [land32, eT, eU]
      simp only [UInt32.toNat_add, Nat.add_eq]
      omega
    have ee : Nat.land (Nat.add v.d.toNat (Nat.add (Nat.add (Nat.add v.h.toNat S1.toNat) ch.toNat) (Nat.add k.toNat w0.toNat))) 0xffffffff = (step8 v k w0).e.toNat := by
      show _ = (v.d + tOf v k w0).toNat
      rw [land32, eT]
      simp only [UInt32.toNat_add, Nat.add_eq]
      omega
    have ew : Nat.land (Nat.add (Nat.add w0.toNat (sg0 w1).toNat) (Nat.add w9.toNat (sg1 w14).toNat)) 0xffffffff = (w0 + w9 + sg0 w1 + sg1 w14).toNat := by
      rw [land32]
      simp only [UInt32.toNat_add, Nat.add_eq]
      omega
    rw [ea, ee, ew]
    exact ih (step8 v k w0) w1 w2 w3 w4 w5 w6 w7 w8 w9 w10 w11 w12 w13 w14 w15 _

theorem sched_get (blk : Bytes) (i m : Nat) (h : m < i) : (sched blk i).getD m 0 = nextW blk (sched blk m) := by
  induction i with
  | zero => omega
  | succ i ih =>
    have hl := sched_length blk i
    rw [sched_succ]
    rcases Nat.lt_or_ge m i with h1 | h1
    · rw [List.getD_eq_getElem?_getD, List.getElem?_append_left (by omega), ← List.getD_eq_getElem?_getD]; exact ih h1
    · have : m = i := by omega
      subst this
      rw [List.getD_eq_getElem?_getD, List.getElem?_append_right (by omega), hl, Nat.sub_self]; rfl
theorem sched_next (blk : Bytes) (j : Nat) (h : j + 16 < 80) : (sched blk 80).getD j 0 + (sched blk 80).getD (j + 9) 0 + sg0 ((sched blk 80).getD (j + 1) 0) + sg1 ((sched blk 80).getD (j + 14) 0) = (sched blk 80).getD (j + 16) 0 := by
  rw [sched_get blk 80 (j + 16) h]
  conv => rhs; unfold nextW
  rw [sched_length, if_neg (by omega), show j + 16 - 16 = j by omega, show j + 16 - 7 = j + 9 by omega, show j + 16 - 15 = j + 1 by omega, show j + 16 - 2 = j + 14 by omega]
  rw [sched_get blk (j + 16) j (by omega), sched_get blk (j + 16) (j + 9) (by omega), sched_get blk (j + 16) (j + 1) (by omega), sched_get blk (j + 16) (j + 14) (by omega)]
  rw [sched_get blk 80 j (by omega), sched_get blk 80 (j + 9) (by omega), sched_get blk 80 (j + 1) (by omega), sched_get blk 80 (j + 14) (by omega)]
theorem rounds8_congr (w w' : List UInt32) (v : S8) (n : Nat) (h : ∀ i, i < n → w.getD i 0 = w'.getD i 0) : rounds8 w v n = rounds8 w' v n := by
  induction n with
  | zero => rw [rounds8_zero, rounds8_zero]
  | succ n ih => rw [rounds8_succ, rounds8_succ, ih fun i hi => h i (by omega), h n (by omega)]
theorem runU_win (W : List UInt32) (hW : ∀ j, j + 16 < 80 → W.getD j 0 + W.getD (j + 9) 0 + sg0 (W.getD (j + 1) 0) + sg1 (W.getD (j + 14) 0) = W.getD (j + 16) 0) (v : S8) : ∀ (ks : List UInt32) (j : Nat), roundKs.drop j = ks → j + ks.length = 64 →
    runU ks (rounds8 W v j) (W.getD j 0) (W.getD (j + 1) 0) (W.getD (j + 2) 0) (W.getD (j + 3) 0) (W.getD (j + 4) 0) (W.getD (j + 5) 0) (W.getD (j + 6) 0) (W.getD (j + 7) 0) (W.getD (j + 8) 0) (W.getD (j + 9) 0) (W.getD (j + 10) 0) (W.getD (j + 11) 0) (W.getD (j + 12) 0) (W.getD (j + 13) 0) (W.getD (j + 14) 0) (W.getD (j + 15) 0) = rounds8 W v 64 := by
  intro ks
  induction ks with
  | nil =>
    intro j _ hj
    have : j = 64 := by simpa using hj
    subst this
    rw [runU]
  | cons k ks ih =>
    intro j hd hj
    simp only [List.length_cons] at hj
    have hk : roundKs.getD j 0 = k := by
      have : (roundKs.drop j)[0]? = some k := by rw [hd]; rfl
      rw [List.getElem?_drop, Nat.add_zero] at this
      rw [List.getD_eq_getElem?_getD, this]; rfl
    have hd' : roundKs.drop (j + 1) = ks := by
      have := congrArg List.tail hd
      simpa using this
    rw [runU, hW j (by omega)]
    have e : step8 (rounds8 W v j) k (W.getD j 0) = rounds8 W v (j + 1) := by rw [rounds8_succ, hk]
    rw [e]
    have := ih (j + 1) hd' (by omega)
    simp only [Nat.add_assoc, Nat.reduceAdd] at this
    exact this
theorem runU_all (blk : Bytes) (v : S8) : runU roundKs v ((sched blk 80).getD 0 0) ((sched blk 80).getD 1 0) ((sched blk 80).getD 2 0) ((sched blk 80).getD 3 0) ((sched blk 80).getD 4 0) ((sched blk 80).getD 5 0) ((sched blk 80).getD 6 0) ((sched blk 80).getD 7 0) ((sched blk 80).getD 8 0) ((sched blk 80).getD 9 0) ((sched blk 80).getD 10 0) ((sched blk 80).getD 11 0) ((sched blk 80).getD 12 0) ((sched blk 80).getD 13 0) ((sched blk 80).getD 14 0) ((sched blk 80).getD 15 0) = rounds8 (sched blk 64) v 64 := by
  have h := runU_win (sched blk 80) (sched_next blk) v roundKs 0 rfl rfl
  rw [rounds8_zero] at h
  simp only [Nat.zero_add] at h
  rw [h]
  exact rounds8_congr _ _ _ _ fun i hi => by rw [sched_get blk 80 i (by omega), sched_get blk 64 i hi]

/-! ### numbers of bytes -/
def toN (l : Bytes) : Nat := l.foldl (fun n x => n * 256 + x.toNat) 0
theorem toN_from (l : Bytes) (m : Nat) : l.foldl (fun n x => n * 256 + x.toNat) m = m * 256 ^ l.length + toN l := by
  induction l generalizing m with
  | nil => simp [toN]
  | cons a l ih =>
    unfold toN
    rw [List.foldl_cons, List.foldl_cons, ih, ih (0 * 256 + a.toNat), List.length_cons, Nat.pow_succ, Nat.zero_mul, Nat.zero_add, Nat.add_mul]
    rw [Nat.mul_assoc m 256, Nat.mul_comm 256, Nat.add_assoc]
theorem toN_append (a b : Bytes) : toN (a ++ b) = toN a * 256 ^ b.length + toN b := by
  unfold toN
  rw [List.foldl_append, toN_from]; rfl
theorem toN_cons (a : UInt8) (l : Bytes) : toN (a :: l) = a.toNat * 256 ^ l.length + toN l := by
  rw [show a :: l = [a] ++ l from rfl, toN_append]; simp [toN]
theorem toN_nil : toN [] = 0 := rfl
theorem toN_lt (l : Bytes) : toN l < 256 ^ l.length := by
  induction l with
  | nil => simp [toN]
  | cons a l ih =>
    rw [toN_cons, List.length_cons, Nat.pow_succ]
    have ha := a.toNat_lt
    calc a.toNat * 256 ^ l.length + toN l < a.toNat * 256 ^ l.length + 256 ^ l.length := by omega
      _ = (a.toNat + 1) * 256 ^ l.length := by rw [Nat.add_mul, Nat.one_mul]
      _ ≤ 256 * 256 ^ l.length := Nat.mul_le_mul_right _ (by omega)
      _ = 256 ^ l.length * 256 := Nat.mul_comm _ _
def wordN (x s : Nat) : Nat := Nat.land (Nat.shiftRight x s) 0xffffffff
theorem wordN_eq (x s : Nat) : wordN x s = x / 2 ^ s % 4294967296 := by unfold wordN; rw [land32]; show (x >>> s) % _ = _; rw [Nat.shiftRight_eq_div_pow]
theorem get4N (a b c d : UInt8) : (getB [a, b, c, d]).toUInt32.toNat = toN [a, b, c, d] := by
  have ha := a.toNat_lt
  have hb := b.toNat_lt
  have hc := c.toNat_lt
  have hd := d.toNat_lt
  simp [getB, toN, Nat.shiftLeft_eq]
  omega
theorem word_blk (blk : Bytes) (h : blk.length = 64) (i : Nat) (hi : i < 16) : wordN (toN blk) (32 * (15 - i)) = (getB ((blk.drop (4 * i)).take 4)).toUInt32.toNat := by
  have e : blk = blk.take (4 * i) ++ ((blk.drop (4 * i)).take 4 ++ blk.drop (4 * i + 4)) := by
    rw [← List.drop_drop, List.take_append_drop, List.take_append_drop]
  obtain ⟨pre, hpre⟩ : ∃ pre, pre = blk.take (4 * i) := ⟨_, rfl⟩
  obtain ⟨w, hw⟩ : ∃ w, w = (blk.drop (4 * i)).take 4 := ⟨_, rfl⟩
  obtain ⟨post, hpost⟩ : ∃ post, post = blk.drop (4 * i + 4) := ⟨_, rfl⟩
  have hwl : w.length = 4 := by rw [hw]; simp; omega
  have hpl : post.length = 4 * (15 - i) := by rw [hpost]; simp; omega
  rw [← hw]
  rw [← hpre, ← hw, ← hpost] at e
  rw [e, wordN_eq, toN_append, toN_append, List.length_append, hwl, hpl]
  have h256 : (256 : Nat) ^ (4 * (15 - i)) = 2 ^ (32 * (15 - i)) := by
    rw [show (256 : Nat) = 2 ^ 8 from rfl, ← Nat.pow_mul]; congr 1; omega
  have hpost' : toN post < 2 ^ (32 * (15 - i)) := by have := toN_lt post; rwa [hpl, h256] at this
  rw [Nat.pow_add, h256]
  obtain ⟨B, hB⟩ : ∃ B, B = 2 ^ (32 * (15 - i)) := ⟨_, rfl⟩
  rw [← hB] at hpost' ⊢
  have hBp : 0 < B := by omega
  have e2 : toN pre * (256 ^ 4 * B) + (toN w * B + toN post) = (toN pre * 4294967296 + toN w) * B + toN post := by
    rw [show (256 : Nat) ^ 4 = 4294967296 from rfl, Nat.add_mul, Nat.mul_assoc]; omega
  rw [e2, Nat.mul_comm _ B, Nat.mul_add_div hBp, Nat.div_eq_of_lt hpost', Nat.add_zero]
  have hwlt : toN w < 4294967296 := by have := toN_lt w; rwa [hwl] at this
  rw [show (toN pre * 4294967296 + toN w) % 4294967296 = toN w by omega]
  match w, hwl with
  | [a, b, c, d], _ => exact (get4N a b c d).symm
def roundKsN : List Nat := [0x428a2f98, 0x71374491, 0xb5c0fbcf, 0xe9b5dba5, 0x3956c25b, 0x59f111f1, 0x923f82a4, 0xab1c5ed5, 0xd807aa98, 0x12835b01, 0x243185be, 0x550c7dc3, 0x72be5d74, 0x80deb1fe, 0x9bdc06a7, 0xc19bf174, 0xe49b69c1, 0xefbe4786, 0x0fc19dc6, 0x240ca1cc, 0x2de92c6f, 0x4a7484aa, 0x5cb0a9dc, 0x76f988da, 0x983e5152, 0xa831c66d, 0xb00327c8, 0xbf597fc7, 0xc6e00bf3, 0xd5a79147, 0x06ca6351, 0x14292967, 0x27b70a85, 0x2e1b2138, 0x4d2c6dfc, 0x53380d13, 0x650a7354, 0x766a0abb, 0x81c2c92e, 0x92722c85, 0xa2bfe8a1, 0xa81a664b, 0xc24b8b70, 0xc76c51a3, 0xd192e819, 0xd6990624, 0xf40e3585, 0x106aa070, 0x19a4c116, 0x1e376c08, 0x2748774c, 0x34b0bcb5, 0x391c0cb3, 0x4ed8aa4a, 0x5b9cca4f, 0x682e6ff3, 0x748f82ee, 0x78a5636f, 0x84c87814, 0x8cc70208, 0x90befffa, 0xa4506ceb, 0xbef9a3f7, 0xc67178f2]
theorem roundKsN_eq : roundKsN = roundKs.map UInt32.toNat := by rfl
def packN (a b c d e f g h : Nat) : Nat := Nat.add (Nat.mul (Nat.add (Nat.mul (Nat.add (Nat.mul (Nat.add (Nat.mul (Nat.add (Nat.mul (Nat.add (Nat.mul (Nat.add (Nat.mul (a) 4294967296) b) 4294967296) c) 4294967296) d) 4294967296) e) 4294967296) f) 4294967296) g) 4294967296) h
def packS (v : S8) : Nat := packN v.a.toNat v.b.toNat v.c.toNat v.d.toNat v.e.toNat v.f.toNat v.g.toNat v.h.toNat
def compN (st blk : Nat) : Nat :=
  force (wordN st 224) fun a =>
  force (wordN st 192) fun b =>
  force (wordN st 160) fun c =>
  force (wordN st 128) fun d =>
  force (wordN st 96) fun e =>
  force (wordN st 64) fun f =>
  force (wordN st 32) fun g =>
  force (wordN st 0) fun h =>
  force (wordN blk 480) fun w0 =>
  force (wordN blk 448) fun w1 =>
  force (wordN blk 416) fun w2 =>
  force (wordN blk 384) fun w3 =>
  force (wordN blk 352) fun w4 =>
  force (wordN blk 320) fun w5 =>
  force (wordN blk 288) fun w6 =>
  force (wordN blk 256) fun w7 =>
  force (wordN blk 224) fun w8 =>
  force (wordN blk 192) fun w9 =>
  force (wordN blk 160) fun w10 =>
  force (wordN blk 128) fun w11 =>
  force (wordN blk 96) fun w12 =>
  force (wordN blk 64) fun w13 =>
  force (wordN blk 32) fun w14 =>
  force (wordN blk 0) fun w15 =>
  runN (fun a' b' c' d' e' f' g' h' => packN (Nat.land (Nat.add a' a) 0xffffffff) (Nat.land (Nat.add b' b) 0xffffffff) (Nat.land (Nat.add c' c) 0xffffffff) (Nat.land (Nat.add d' d) 0xffffffff) (Nat.land (Nat.add e' e) 0xffffffff) (Nat.land (Nat.add f' f) 0xffffffff) (Nat.land (Nat.add g' g) 0xffffffff) (Nat.land (Nat.add h' h) 0xffffffff)) roundKsN a b c d e f g h w0 w1 w2 w3 w4 w5 w6 w7 w8 w9 w10 w11 w12 w13 w14 w15

theorem sched_blk (blk : Bytes) (h : blk.length = 64) (i : Nat) (hi : i < 16) : ((sched blk 80).getD i 0).toNat = wordN (toN blk) (32 * (15 - i)) := by
  rw [word_blk blk h i hi, sched_get blk 80 i (by omega), nextW, sched_length, if_pos hi]
theorem packN_words (a b c d e f g h : UInt32) : wordN (packN a.toNat b.toNat c.toNat d.toNat e.toNat f.toNat g.toNat h.toNat) 224 = a.toNat ∧ wordN (packN a.toNat b.toNat c.toNat d.toNat e.toNat f.toNat g.toNat h.toNat) 192 = b.toNat ∧
    wordN (packN a.toNat b.toNat c.toNat d.toNat e.toNat f.toNat g.toNat h.toNat) 160 = c.toNat ∧ wordN (packN a.toNat b.toNat c.toNat d.toNat e.toNat f.toNat g.toNat h.toNat) 128 = d.toNat ∧ wordN (packN a.toNat b.toNat c.toNat d.toNat e.toNat f.toNat g.toNat h.toNat) 96 = e.toNat ∧
    wordN (packN a.toNat b.toNat c.toNat d.toNat e.toNat f.toNat g.toNat h.toNat) 64 = f.toNat ∧ wordN (packN a.toNat b.toNat c.toNat d.toNat e.toNat f.toNat g.toNat h.toNat) 32 = g.toNat ∧ wordN (packN a.toNat b.toNat c.toNat d.toNat e.toNat f.toNat g.toNat h.toNat) 0 = h.toNat := by
  have ha := a.toNat_lt
  have hb := b.toNat_lt
  have hc := c.toNat_lt
  have hd := d.toNat_lt
  have he := e.toNat_lt
  have hf := f.toNat_lt
  have hg := g.toNat_lt
  have hh := h.toNat_lt
  simp only [wordN_eq, packN, Nat.add_eq, Nat.mul_eq, Nat.reducePow]
  refine ⟨?_, ?_, ?_, ?_, ?_, ?_, ?_, ?_⟩ <;> omega
theorem land_add (x y : UInt32) : Nat.land (Nat.add x.toNat y.toNat) 0xffffffff = (x + y).toNat := by
  rw [land32, UInt32.toNat_add]; rfl
theorem compN_eq (v : S8) (blk : Bytes) (h : blk.length = 64) : compN (packS v) (toN blk) = packS (mix8 v blk) := by
  obtain ⟨h0, h1, h2, h3, h4, h5, h6, h7⟩ := packN_words v.a v.b v.c v.d v.e v.f v.g v.h
  have w := fun i hi => (sched_blk blk h i hi).symm
  unfold compN
  simp only [force_eq]
  unfold packS
  rw [h0, h1, h2, h3, h4, h5, h6, h7]
  rw [show wordN (toN blk) 480 = _ from w 0 (by decide), show wordN (toN blk) 448 = _ from w 1 (by decide), show wordN (toN blk) 416 = _ from w 2 (by decide), show wordN (toN blk) 384 = _ from w 3 (by decide), show wordN (toN blk) 352 = _ from w 4 (by decide), show wordN (toN blk) 320 = _ from w 5 (by decide), show wordN (toN blk) 288 = _ from w 6 (by decide), show wordN (toN blk) 256 = _ from w 7 (by decide), show wordN (toN blk) 224 = _ from w 8 (by decide), show wordN (toN blk) 192 = _ from w 9 (by decide), show wordN (toN blk) 160 = _ from w 10 (by decide), show wordN (toN blk) 128 = _ from w 11 (by decide), show wordN (toN blk) 96 = _ from w 12 (by decide), show wordN (toN blk) 64 = _ from w 13 (by decide), show wordN (toN blk) 32 = _ from w 14 (by decide), show wordN (toN blk) 0 = _ from w 15 (by decide)]
  rw [roundKsN_eq, runN_eq, runU_all]
  simp only [land_add]
  rw [Go.Proofs.YtahdekllphehkaaDoor.mix8_eq]
  rfl

def goN : Nat → Nat → Nat → Nat
  | 0, st, _ => st
  | n + 1, st, x => force (Nat.shiftRight x (Nat.mul 512 n)) fun blk => force (compN st blk) fun st' => force (Nat.mod x (Nat.pow 2 (Nat.mul 512 n))) fun x' => goN n st' x'
theorem goN_eq : ∀ (N : Nat) (v : S8) (F : Bytes), F.length = 64 * N → goN N (packS v) (toN F) = packS (blocks8 v N F)
  | 0, v, F, _ => by rw [goN, blocks8_zero]
  | N + 1, v, F, hF => by
    rw [goN]
    simp only [force_eq]
    have hp : (256 : Nat) ^ (64 * N) = 2 ^ (512 * N) := by
      rw [show (256 : Nat) = 2 ^ 8 from rfl, ← Nat.pow_mul]; congr 1; omega
    have hd : (F.drop 64).length = 64 * N := by simp; omega
    have ht : (F.take 64).length = 64 := by simp; omega
    have e : toN F = toN (F.take 64) * 2 ^ (512 * N) + toN (F.drop 64) := by
      conv => lhs; rw [← List.take_append_drop 64 F]
      rw [toN_append, hd, hp]
    have hlt : toN (F.drop 64) < 2 ^ (512 * N) := by have := toN_lt (F.drop 64); rwa [hd, hp] at this
    have hpos : 0 < 2 ^ (512 * N) := Nat.two_pow_pos _
    have e1 : Nat.shiftRight (toN F) (Nat.mul 512 N) = toN (F.take 64) := by
      show toN F >>> (512 * N) = _
      rw [Nat.shiftRight_eq_div_pow, e, Nat.mul_comm, Nat.mul_add_div hpos, Nat.div_eq_of_lt hlt, Nat.add_zero]
    have e2 : Nat.mod (toN F) (Nat.pow 2 (Nat.mul 512 N)) = toN (F.drop 64) := by
      show toN F % 2 ^ (512 * N) = _
      rw [e, Nat.mul_comm, Nat.mul_add_mod, Nat.mod_eq_of_lt hlt]
    rw [e1, e2, compN_eq v _ ht, goN_eq N _ _ hd, blocks8_succ]
def firstN : Nat := packS firstS
def shaN (len x : Nat) : Nat :=
  force (Nat.mod (Nat.sub 119 (Nat.mod len 64)) 64) fun z =>
  force (Nat.add (Nat.mul (Nat.mul (Nat.add (Nat.mul x 256) 128) (Nat.pow 256 z)) 18446744073709551616) (Nat.mul len 8)) fun y => force firstN fun st => goN (Nat.div (Nat.add (Nat.add len 9) z) 64) st y
theorem toN_putB (n : UInt64) (k : Nat) : toN (putB n k) = n.toNat % 256 ^ k := by
  induction k generalizing n with
  | zero => simp [putB, toN, Nat.mod_one]
  | succ k ih =>
    have e : (n >>> 8).toNat = n.toNat / 256 := by
      rw [UInt64.toNat_shiftRight]; show n.toNat >>> 8 = _; rw [Nat.shiftRight_eq_div_pow]
    rw [putB, toN_append, ih, e, Nat.pow_succ, Nat.mul_comm (256 ^ k) 256, Nat.mod_mul]
    have : toN [n.toUInt8] = n.toNat % 256 := by simp [toN]
    rw [this]
    simp only [List.length_cons, List.length_nil, Nat.zero_add, Nat.pow_one]
    omega
theorem toN_zeros (z : Nat) : toN (List.replicate z 0) = 0 := by
  induction z with
  | zero => rfl
  | succ z ih => rw [List.replicate_succ, toN_cons, ih]; simp
theorem toN_filled (l : Bytes) (h : l.length ≤ 4294967296) : toN (filledB l) = (toN l * 256 + 128) * 256 ^ ((119 - l.length % 64) % 64) * 18446744073709551616 + l.length * 8 := by
  unfold filledB
  rw [toN_append, toN_append, toN_append, toN_zeros, toN_putB, putB_length, List.length_replicate]
  have e1 : (UInt64.ofNat l.length * 8).toNat % 256 ^ 8 = l.length * 8 := by
    rw [UInt64.toNat_mul, UInt64.toNat_ofNat']
    show l.length % 18446744073709551616 * 8 % 18446744073709551616 % 18446744073709551616 = _
    omega
  rw [e1, show toN [128] = 128 from rfl, show ([128] : Bytes).length = 1 from rfl, Nat.pow_one, Nat.add_zero, show 64 + 55 - l.length % 64 = 119 - l.length % 64 by omega]
/-- A hash as a number. -/
def hN (h : Hash) : Nat := toN h.toList
theorem toN_outB (v : S8) : toN (outB v) = packS v := by
  have w : ∀ x : UInt32, toN (putB x.toUInt64 4) = x.toNat := fun x => by
    rw [toN_putB]
    have := x.toNat_lt
    simp
  unfold outB S8.l packS packN
  simp only [List.flatMap_cons, List.flatMap_nil, List.append_nil, toN_append, w, List.length_append, putB_length, Nat.add_eq, Nat.mul_eq]
  omega
theorem hN_sha (l : Bytes) (h : l.length ≤ 4294967296) : hN (sha l) = shaN l.length (toN l) := by
  have e : (sha l).toList = outB (blocks8 firstS ((filledB l).length / 64) (filledB l)) := by
    unfold sha hashOf; simp
  have hfl : (filledB l).length = l.length + 9 + (119 - l.length % 64) % 64 := by
    simp [filledB, putB_length]; omega
  unfold hN
  rw [e, toN_outB, ← goN_eq _ _ _ (Go.Proofs.YtahdekllphehkaaDoor.filledB_length l), toN_filled l h, hfl]
  unfold shaN
  simp only [force_eq]
  rfl
theorem hN_inj {a b : Hash} (h : hN a ≠ hN b) : a ≠ b := fun e => h (by rw [e])
end Go.Spec
