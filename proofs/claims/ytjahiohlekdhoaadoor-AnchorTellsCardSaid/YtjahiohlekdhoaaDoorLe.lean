/-
  Whole numbers as bytes, and back (plain).
-/
import Derived.Test.YtjahiohlekdhoaaDoorPack2
import Derived.Test.YtjahiohlekdhoaaDoorPtr
namespace Go.Proofs.YtjahiohlekdhoaaDoor
open Go

theorem unle_nil : unle [] = 0 := rfl
theorem unle_cons (b : UInt8) (l : List UInt8) : unle (b :: l) = (unle l <<< UInt64.ofNat 8) ||| b.toUInt64 := by
  simp [unle, List.foldl_append]
theorem or_add (x y : Nat) (h : y < 256) : (x * 256) ||| y = x * 256 + y := by
  have := Nat.two_pow_add_eq_or_of_lt (i := 8) (by simpa using h) x
  rw [show (2 : Nat) ^ 8 = 256 from rfl, Nat.mul_comm] at this
  exact this.symm
theorem unle_toNat : ∀ (l : List UInt8), l.length ≤ 8 → (unle l).toNat < 256 ^ l.length ∧ ∀ b : UInt8, l.length ≤ 7 → (unle (b :: l)).toNat = (unle l).toNat * 256 + b.toNat
  | [], _ => ⟨by decide, fun b _ => by rw [unle_cons, unle_nil]; simp⟩
  | c :: l, h => by
    have h7 : l.length ≤ 7 := by simpa using h
    obtain ⟨h1, h2⟩ := unle_toNat l (by omega)
    have h3 := h2 c h7
    have hc := lt8 c
    have hb : (unle (c :: l)).toNat < 256 ^ (c :: l).length := by
      rw [h3, List.length_cons, Nat.pow_succ]
      have : (unle l).toNat + 1 ≤ 256 ^ l.length := h1
      have := Nat.mul_le_mul_right 256 this
      rw [Nat.add_mul] at this
      omega
    refine ⟨hb, fun b hl => ?_⟩
    have hl6 : l.length ≤ 6 := by simpa using hl
    have h56 : (unle (c :: l)).toNat < 256 ^ 7 := Nat.lt_of_lt_of_le hb (Nat.pow_le_pow_right (by omega) (by simpa using hl))
    rw [unle_cons b (c :: l), UInt64.toNat_or, UInt64.toNat_shiftLeft]
    have e8 : (UInt64.ofNat 8).toNat % 64 = 8 := rfl
    rw [e8, Nat.shiftLeft_eq, show (2 : Nat) ^ 8 = 256 from rfl, Nat.mod_eq_of_lt (by
      have : (256 : Nat) ^ 7 * 256 = 2 ^ 64 := by decide
      have h := Nat.mul_lt_mul_of_pos_right h56 (show 0 < 256 by omega)
      rw [this] at h
      exact h)]
    have e : b.toUInt64.toNat = b.toNat := by simp
    rw [e, or_add _ _ (lt8 b)]
theorem unle_lt (l : List UInt8) (h : l.length ≤ 8) : (unle l).toNat < 256 ^ l.length := (unle_toNat l h).1
theorem unle_step (b : UInt8) (l : List UInt8) (h : l.length ≤ 7) : (unle (b :: l)).toNat = (unle l).toNat * 256 + b.toNat := (unle_toNat l (by omega)).2 b h

theorem shr8 (x : UInt64) : (x >>> UInt64.ofNat 8).toNat = x.toNat / 256 := by
  rw [UInt64.toNat_shiftRight, show (UInt64.ofNat 8).toNat % 64 = 8 from rfl, Nat.shiftRight_eq_div_pow]
theorem byte_toNat (x : UInt64) : x.toUInt8.toNat = x.toNat % 256 := by simp

/-- Bytes, read and written again. -/
theorem le_unle : ∀ (l : List UInt8), l.length ≤ 8 → le l.length (unle l) = l
  | [], _ => rfl
  | b :: l, h => by
    have h7 : l.length ≤ 7 := by simpa using h
    have hs := unle_step b l h7
    have hb := lt8 b
    rw [List.length_cons, le]
    have e1 : (unle (b :: l)).toUInt8 = b := UInt8.toNat_inj.1 (by rw [byte_toNat, hs]; omega)
    have e2 : unle (b :: l) >>> UInt64.ofNat 8 = unle l := UInt64.toNat_inj.1 (by rw [shr8, hs]; omega)
    rw [e1, e2, le_unle l (by omega)]
theorem le_unle' (l : List UInt8) (k : Nat) (h : l.length = k) (hk : k ≤ 8) : le k (unle l) = l := by subst h; exact le_unle l hk
/-- A number, written and read again. -/
theorem unle_le : ∀ (k : Nat) (x : UInt64), k ≤ 8 → (unle (le k x)).toNat = x.toNat % 256 ^ k
  | 0, x, _ => by rw [le, unle_nil]; simp; omega
  | k + 1, x, h => by
    rw [le, unle_step _ _ (by rw [le_length]; omega), unle_le k _ (by omega), shr8, byte_toNat, Nat.pow_succ, Nat.mul_comm (256 ^ k) 256, Nat.mod_mul]
    omega
theorem unle_le_id (k : Nat) (x : UInt64) (h : k ≤ 8) (hx : x.toNat < 256 ^ k) : unle (le k x) = x := UInt64.toNat_inj.1 (by rw [unle_le k x h, Nat.mod_eq_of_lt hx])

theorem narrow8 (x : UInt64) (h : x.toNat < 256) : x.toUInt8.toUInt64 = x := UInt64.toNat_inj.1 (by simp; omega)
theorem narrow16 (x : UInt64) (h : x.toNat < 65536) : x.toUInt16.toUInt64 = x := UInt64.toNat_inj.1 (by simp; omega)
theorem narrow32 (x : UInt64) (h : x.toNat < 4294967296) : x.toUInt32.toUInt64 = x := UInt64.toNat_inj.1 (by simp; omega)
theorem wide8 (x : UInt8) : x.toUInt64.toUInt8 = x := UInt8.toNat_inj.1 (by simp)
theorem wide16 (x : UInt16) : x.toUInt64.toUInt16 = x := UInt16.toNat_inj.1 (by have := lt16 x; simp)
theorem wide32 (x : UInt32) : x.toUInt64.toUInt32 = x := UInt32.toNat_inj.1 (by have := lt32 x; simp)

theorem le1_of (l : List UInt8) (h : l.length = 1) : le 1 (unle l).toUInt8.toUInt64 = l := by
  have := unle_lt l (by omega)
  rw [h] at this
  rw [narrow8 _ (by simpa using this), le_unle' l 1 h (by omega)]
theorem le2_of (l : List UInt8) (h : l.length = 2) : le 2 (unle l).toUInt16.toUInt64 = l := by
  have := unle_lt l (by omega)
  rw [h] at this
  rw [narrow16 _ (by simpa using this), le_unle' l 2 h (by omega)]
theorem le4_of (l : List UInt8) (h : l.length = 4) : le 4 (unle l).toUInt32.toUInt64 = l := by
  have := unle_lt l (by omega)
  rw [h] at this
  rw [narrow32 _ (by simpa using this), le_unle' l 4 h (by omega)]
theorem of_le1 (x : UInt8) : (unle (le 1 x.toUInt64)).toUInt8 = x := by rw [unle_le_id 1 _ (by omega) (by have := lt8 x; simp; omega), wide8]
theorem of_le2 (x : UInt16) : (unle (le 2 x.toUInt64)).toUInt16 = x := by rw [unle_le_id 2 _ (by omega) (by have := lt16 x; simp; omega), wide16]
theorem of_le4 (x : UInt32) : (unle (le 4 x.toUInt64)).toUInt32 = x := by rw [unle_le_id 4 _ (by omega) (by have := lt32 x; simp; omega), wide32]

/-- A pointer's bytes, read and written again. -/
theorem ptake_bytes (l : List UInt8) (h : l.length = 17) : (ptake l).bytes = l := by
  obtain ⟨a, b, c, d, e, rfl, ha, hb, hc, hd, he⟩ : ∃ a b c d e : List UInt8, l = a ++ (b ++ (c ++ (d ++ e))) ∧ a.length = 1 ∧ b.length = 2 ∧ c.length = 2 ∧ d.length = 4 ∧ e.length = 8 :=
    ⟨l.take 1, (l.drop 1).take 2, (l.drop 3).take 2, (l.drop 5).take 4, l.drop 9, by
      have h1 : l.drop 5 = (l.drop 5).take 4 ++ l.drop 9 := by rw [show 9 = 5 + 4 from rfl, ← List.drop_drop, List.take_append_drop]
      have h2 : l.drop 3 = (l.drop 3).take 2 ++ l.drop 5 := by rw [show 5 = 3 + 2 from rfl, ← List.drop_drop, List.take_append_drop]
      have h3 : l.drop 1 = (l.drop 1).take 2 ++ l.drop 3 := by rw [show 3 = 1 + 2 from rfl, ← List.drop_drop, List.take_append_drop]
      rw [← h1, ← h2, ← h3, List.take_append_drop], by simp; omega, by simp; omega, by simp; omega, by simp; omega, by simp; omega⟩
  have t1 : (a ++ (b ++ (c ++ (d ++ e)))).take 1 = a := List.take_left' ha
  have d1 : (a ++ (b ++ (c ++ (d ++ e)))).drop 1 = b ++ (c ++ (d ++ e)) := List.drop_left' ha
  have d3 : (a ++ (b ++ (c ++ (d ++ e)))).drop 3 = c ++ (d ++ e) := by rw [show 3 = 1 + 2 from rfl, ← List.drop_drop, d1]; exact List.drop_left' hb
  have d5 : (a ++ (b ++ (c ++ (d ++ e)))).drop 5 = d ++ e := by rw [show 5 = 3 + 2 from rfl, ← List.drop_drop, d3]; exact List.drop_left' hc
  have d9 : (a ++ (b ++ (c ++ (d ++ e)))).drop 9 = e := by rw [show 9 = 5 + 4 from rfl, ← List.drop_drop, d5]; exact List.drop_left' hd
  simp only [ptake, t1, d1, d3, d5, d9, List.take_left' hb, List.take_left' hc, List.take_left' hd, List.take_of_length_le (Nat.le_of_eq he)]
  simp only [PtrV.bytes, PtrV.nums, packed, List.flatMap_cons, List.flatMap_nil, List.append_nil, le1_of a ha, le2_of b hb, le2_of c hc, le4_of d hd, le_unle' e 8 he (by omega)]
theorem bytes_len (x : PtrV) : x.bytes.length = 17 := by rw [PtrV.bytes, packed_len]; rfl
theorem bytes_ptake (x : PtrV) (r : List UInt8) : ptake (x.bytes ++ r) = x := by
  have e : x.bytes ++ r = le 1 x.kind.toUInt64 ++ (le 2 x.a0.toUInt64 ++ (le 2 x.a1.toUInt64 ++ (le 4 x.birth.toUInt64 ++ (le 8 x.sum ++ r)))) := by
    simp [PtrV.bytes, PtrV.nums, packed]
  rw [e]
  obtain ⟨q1, h1⟩ : ∃ q, q = le 2 x.a0.toUInt64 ++ (le 2 x.a1.toUInt64 ++ (le 4 x.birth.toUInt64 ++ (le 8 x.sum ++ r))) := ⟨_, rfl⟩
  have t1 : (le 1 x.kind.toUInt64 ++ q1).take 1 = le 1 x.kind.toUInt64 := List.take_left' (le_length _ _)
  have d1 : (le 1 x.kind.toUInt64 ++ q1).drop 1 = q1 := List.drop_left' (le_length _ _)
  have t2 : q1.take 2 = le 2 x.a0.toUInt64 := by rw [h1]; exact List.take_left' (le_length _ _)
  have d3 : (le 1 x.kind.toUInt64 ++ q1).drop 3 = le 2 x.a1.toUInt64 ++ (le 4 x.birth.toUInt64 ++ (le 8 x.sum ++ r)) := by rw [show 3 = 1 + 2 from rfl, ← List.drop_drop, d1, h1]; exact List.drop_left' (le_length _ _)
  have d5 : (le 1 x.kind.toUInt64 ++ q1).drop 5 = le 4 x.birth.toUInt64 ++ (le 8 x.sum ++ r) := by rw [show 5 = 3 + 2 from rfl, ← List.drop_drop, d3]; exact List.drop_left' (le_length _ _)
  have d9 : (le 1 x.kind.toUInt64 ++ q1).drop 9 = le 8 x.sum ++ r := by rw [show 9 = 5 + 4 from rfl, ← List.drop_drop, d5]; exact List.drop_left' (le_length _ _)
  rw [← h1]
  simp only [ptake, t1, d1, d3, d5, d9, t2]
  rw [List.take_left' (le_length _ _), List.take_left' (le_length _ _), List.take_left' (le_length _ _), of_le1, of_le2, of_le2, of_le4, unle_le_id 8 _ (by omega) (by have := lt64 x.sum; simpa using this)]
end Go.Proofs.YtjahiohlekdhoaaDoor
