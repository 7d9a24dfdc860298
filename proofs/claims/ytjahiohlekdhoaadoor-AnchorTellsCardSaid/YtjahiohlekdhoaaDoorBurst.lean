/-
  What a check sum tells of bytes that are changed within eight: it changes (plain).
-/
import Derived.Test.YtjahiohlekdhoaaDoorLe
namespace Go.Proofs.YtjahiohlekdhoaaDoor
open Go

/-- One bit's step. -/
def T (c : BitVec 64) : BitVec 64 := (c >>> 1) ^^^ (if c.getLsbD 0 then 14514072000185962306#64 else 0#64)
theorem and_one (c : UInt64) : (c &&& 1).toBitVec = if c.toBitVec.getLsbD 0 then 1#64 else 0#64 := by
  apply BitVec.eq_of_getLsbD_eq
  intro i hi
  have h1 : (1#64).getLsbD i = decide (i = 0) := by
    rcases i with _ | i
    · rfl
    · simp [BitVec.getLsbD_one]
  simp only [UInt64.toBitVec_and, BitVec.getLsbD_and]
  rw [show (1 : UInt64).toBitVec = 1#64 from rfl, h1]
  by_cases h0 : i = 0
  · subst h0
    cases c.toBitVec.getLsbD 0 <;> simp
  · simp only [h0, decide_false, Bool.and_false]
    split
    · rw [h1]; simp [h0]
    · simp
theorem rk_T (c : UInt64) : (rk c).toBitVec = T c.toBitVec := by
  unfold rk T
  rw [UInt64.toBitVec_xor, UInt64.toBitVec_mul, and_one, UInt64.toBitVec_shiftRight]
  have e1 : c.toBitVec >>> ((UInt64.ofNat 1).toBitVec % 64#64) = c.toBitVec >>> 1 := rfl
  have e2 : (14514072000185962306 : UInt64).toBitVec = 14514072000185962306#64 := rfl
  have e3 : 14514072000185962306#64 * 1#64 = 14514072000185962306#64 := by decide
  have e4 : 14514072000185962306#64 * 0#64 = 0#64 := by decide
  rw [e2]
  split
  · rw [e3]; rfl
  · rw [e4]; rfl

theorem shr_xor (x y : BitVec 64) (n : Nat) : (x ^^^ y) >>> n = (x >>> n) ^^^ (y >>> n) := by
  apply BitVec.eq_of_getLsbD_eq
  intro i hi
  simp
theorem T_xor (x y : BitVec 64) : T (x ^^^ y) = T x ^^^ T y := by
  unfold T
  rw [shr_xor, BitVec.getLsbD_xor]
  cases x.getLsbD 0 <;> cases y.getLsbD 0 <;> simp
  · ac_rfl
  · ac_rfl
  · rw [show x >>> 1 ^^^ 14514072000185962306#64 ^^^ (y >>> 1 ^^^ 14514072000185962306#64) = (x >>> 1 ^^^ y >>> 1) ^^^ (14514072000185962306#64 ^^^ 14514072000185962306#64) by ac_rfl, BitVec.xor_self, BitVec.xor_zero]
theorem T_zero {z : BitVec 64} (h : T z = 0#64) : z = 0#64 := by
  unfold T at h
  have h63 : (z >>> 1).getLsbD 63 = false := by simp
  cases h0 : z.getLsbD 0 with
  | true =>
    rw [h0] at h
    have := congrArg (fun b => BitVec.getLsbD b 63) h
    simp only [BitVec.getLsbD_xor, h63, if_true] at this
    exact absurd this (by decide)
  | false =>
    rw [h0] at h
    apply BitVec.eq_of_getLsbD_eq
    intro i hi
    rcases i with _ | i
    · rw [h0]; simp
    · have := congrArg (fun b => BitVec.getLsbD b i) h
      simp at this
      rw [Nat.add_comm i 1, this]; simp
theorem xor_zero_eq {x y : BitVec 64} (h : x ^^^ y = 0#64) : x = y := by
  have : x ^^^ y ^^^ y = 0#64 ^^^ y := by rw [h]
  simpa [BitVec.xor_assoc] using this
theorem T_inj {x y : BitVec 64} (h : T x = T y) : x = y := xor_zero_eq (T_zero (by rw [T_xor, h, BitVec.xor_self]))

def TN : Nat → BitVec 64 → BitVec 64
  | 0, c => c
  | n + 1, c => T (TN n c)
theorem rkN_T : ∀ (n : Nat) (c : UInt64), (rkN n c).toBitVec = TN n c.toBitVec
  | 0, _ => rfl
  | n + 1, c => by rw [rkN, rk_T, rkN_T n c, TN]
theorem TN_xor : ∀ (n : Nat) (x y : BitVec 64), TN n (x ^^^ y) = TN n x ^^^ TN n y
  | 0, _, _ => rfl
  | n + 1, x, y => by rw [TN, TN_xor n x y, T_xor]; rfl
theorem TN_inj : ∀ (n : Nat) {x y : BitVec 64}, TN n x = TN n y → x = y
  | 0, _, _, h => h
  | n + 1, _, _, h => TN_inj n (T_inj h)
theorem TN_add : ∀ (m n : Nat) (x : BitVec 64), TN (m + n) x = TN m (TN n x)
  | 0, n, x => by rw [Nat.zero_add]; rfl
  | m + 1, n, x => by rw [Nat.succ_add, TN, TN_add m n x]; rfl
/-- Bits that lie high come down as they are. -/
theorem TN_high : ∀ (n : Nat) (z : BitVec 64), (∀ i, i < n → z.getLsbD i = false) → TN n z = z >>> n
  | 0, z, _ => by simp [TN]
  | n + 1, z, h => by
    rw [TN, TN_high n z fun i hi => h i (by omega)]
    unfold T
    have h0 : (z >>> n).getLsbD 0 = false := by simp [h n (by omega)]
    rw [h0]
    simp only [Bool.false_eq_true, if_false, BitVec.xor_zero]
    apply BitVec.eq_of_getLsbD_eq
    intro i hi
    simp [Nat.add_comm, Nat.add_left_comm]

theorem byte_bits (b : UInt8) (i : Nat) : b.toUInt64.toBitVec.getLsbD i = b.toBitVec.getLsbD i := by
  simp
  intro h
  have := BitVec.lt_of_getLsbD h
  omega
theorem low_bits (x : UInt64) (i : Nat) : x.toUInt8.toBitVec.getLsbD i = (decide (i < 8) && x.toBitVec.getLsbD i) := by simp
/-- A byte's step: eight bits' steps. -/
theorem step_T (x : UInt64) (b : UInt8) : (step x b).toBitVec = TN 8 (x.toBitVec ^^^ b.toUInt64.toBitVec) := by
  have hx : x.toBitVec ^^^ b.toUInt64.toBitVec = (x.toUInt8 ^^^ b).toUInt64.toBitVec ^^^ ((x.toBitVec >>> 8) <<< 8) := by
    apply BitVec.eq_of_getLsbD_eq
    intro i hi
    rw [BitVec.getLsbD_xor, BitVec.getLsbD_xor, byte_bits, byte_bits, UInt8.toBitVec_xor, BitVec.getLsbD_xor, low_bits, BitVec.getLsbD_shiftLeft, BitVec.getLsbD_ushiftRight]
    by_cases h8 : i < 8
    · simp [h8]
    · have hb : b.toBitVec.getLsbD i = false := BitVec.getLsbD_of_ge _ _ (by omega)
      have : 8 + (i - 8) = i := by omega
      simp [h8, hi, hb, this]
  have hh : TN 8 ((x.toBitVec >>> 8) <<< 8) = x.toBitVec >>> 8 := by
    rw [TN_high 8 _ fun i hi => by simp [hi]]
    apply BitVec.eq_of_getLsbD_eq
    intro i hi
    simp only [BitVec.getLsbD_ushiftRight, BitVec.getLsbD_shiftLeft]
    by_cases h : 8 + i < 64
    · simp [h]
    · have : x.toBitVec.getLsbD (8 + i) = false := BitVec.getLsbD_of_ge _ _ (by omega)
      simp [h, this]
  unfold step reckon
  rw [UInt64.toBitVec_xor, rkN_T, hx, TN_xor, hh, UInt64.toBitVec_shiftRight]
  rfl
/-- Some bytes' steps: as many bits' steps of the state and the bytes as one number. -/
theorem steps_T : ∀ (l : List UInt8) (x : UInt64), l.length ≤ 8 → (l.foldl step x).toBitVec = TN (8 * l.length) (x.toBitVec ^^^ (unle l).toBitVec)
  | [], x, _ => by rw [unle_nil]; simp [TN]
  | b :: l, x, h => by
    have h7 : l.length ≤ 7 := by simpa using h
    have hlt := unle_lt l (by omega)
    have h56 : (unle l).toNat < 2 ^ 56 := Nat.lt_of_lt_of_le hlt (by
      have := Nat.pow_le_pow_right (show 0 < 256 by omega) h7
      exact Nat.le_trans this (by decide))
    have hbit : ∀ i, 56 ≤ i → (unle l).toBitVec.getLsbD i = false := fun i hi => by
      rw [BitVec.getLsbD, UInt64.toNat_toBitVec]
      exact Nat.testBit_lt_two_pow (Nat.lt_of_lt_of_le h56 (Nat.pow_le_pow_right (by omega) hi))
    have hsh : TN 8 ((unle l).toBitVec <<< 8) = (unle l).toBitVec := by
      rw [TN_high 8 _ fun i hi => by simp [hi]]
      apply BitVec.eq_of_getLsbD_eq
      intro i hi
      simp only [BitVec.getLsbD_ushiftRight, BitVec.getLsbD_shiftLeft]
      by_cases h : 8 + i < 64
      · simp [h]
      · rw [hbit i (by omega)]; simp [h]
    have hun : (unle (b :: l)).toBitVec = b.toUInt64.toBitVec ^^^ ((unle l).toBitVec <<< 8) := by
      rw [unle_cons, UInt64.toBitVec_or, UInt64.toBitVec_shiftLeft]
      rw [show (unle l).toBitVec <<< ((UInt64.ofNat 8).toBitVec % 64) = (unle l).toBitVec <<< 8 from rfl]
      apply BitVec.eq_of_getLsbD_eq
      intro i hi
      rw [BitVec.getLsbD_or, BitVec.getLsbD_xor, byte_bits, BitVec.getLsbD_shiftLeft]
      by_cases h8 : i < 8
      · simp [h8]
      · have hb : b.toBitVec.getLsbD i = false := BitVec.getLsbD_of_ge _ _ (by omega)
        simp [hb]
    rw [List.foldl_cons, steps_T l (step x b) (by omega), step_T, hun, List.length_cons, show 8 * (l.length + 1) = 8 * l.length + 8 by omega, TN_add, ← BitVec.xor_assoc, TN_xor 8 (x.toBitVec ^^^ b.toUInt64.toBitVec), hsh]
theorem steps_inj : ∀ (l : List UInt8) {x y : UInt64}, l.foldl step x = l.foldl step y → x = y
  | [], _, _, h => h
  | b :: l, x, y, h => by
    have h1 := steps_inj l (x := step x b) (y := step y b) h
    have h2 := congrArg UInt64.toBitVec h1
    rw [step_T, step_T] at h2
    have h3 := TN_inj 8 h2
    have h4 : x.toBitVec ^^^ b.toUInt64.toBitVec ^^^ b.toUInt64.toBitVec = y.toBitVec ^^^ b.toUInt64.toBitVec ^^^ b.toUInt64.toBitVec := by rw [h3]
    rw [BitVec.xor_assoc, BitVec.xor_assoc, BitVec.xor_self, BitVec.xor_zero, BitVec.xor_zero] at h4
    exact UInt64.toBitVec_inj.1 h4
/-- BYTES THAT DIFFER WITHIN EIGHT ALONE HAVE TWO SUMS. -/
theorem burst (pre u v suf : List UInt8) (hu : u.length ≤ 8) (hv : v.length = u.length) (h : sum (pre ++ (u ++ suf)) = sum (pre ++ (v ++ suf))) : u = v := by
  unfold sum at h
  have h1 : (pre ++ (u ++ suf)).foldl step (UInt64.ofNat 18446744073709551615) = (pre ++ (v ++ suf)).foldl step (UInt64.ofNat 18446744073709551615) := by
    have := congrArg (fun x => ~~~ x) h
    simpa using this
  rw [List.foldl_append, List.foldl_append, List.foldl_append, List.foldl_append] at h1
  have h2 := congrArg UInt64.toBitVec (steps_inj suf h1)
  rw [steps_T u _ hu, steps_T v _ (by omega), hv] at h2
  have h3 := TN_inj _ h2
  have h4 := congrArg (fun z => (List.foldl step (UInt64.ofNat 18446744073709551615) pre).toBitVec ^^^ z) h3
  simp only [← BitVec.xor_assoc, BitVec.xor_self, BitVec.zero_xor] at h4
  have h5 : unle u = unle v := UInt64.toBitVec_inj.1 h4
  rw [← le_unle u hu, ← le_unle v (by omega), h5, hv]
end Go.Proofs.YtjahiohlekdhoaaDoor
