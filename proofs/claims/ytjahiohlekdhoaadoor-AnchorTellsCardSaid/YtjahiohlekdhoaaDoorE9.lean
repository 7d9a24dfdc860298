/-
  The engine, part 9: whole numbers of Go's kinds as Lean's own; 'min', 'max'; shifts, bits; strings out of bytes; equality of aggregates; ends with several results.
-/
import Derived.Test.YtjahiohlekdhoaaDoorE8
import Derived.Laws.BitsAllLaws
import Derived.Laws.Bits64
namespace Go.Proofs.YtjahiohlekdhoaaDoor
open Go

abbrev v8 (x : UInt8) : Value := .int .u8 (x.toNat : Int)
abbrev v16 (x : UInt16) : Value := .int .u16 (x.toNat : Int)
abbrev v32 (x : UInt32) : Value := .int .u32 (x.toNat : Int)
abbrev v64 (x : UInt64) : Value := .int .u64 (x.toNat : Int)
abbrev vi (n : Int) : Value := .int .i64 n
abbrev vb (b : Bool) : Value := .bool b

theorem lt8 (x : UInt8) : x.toNat < 256 := x.toNat_lt
theorem lt16 (x : UInt16) : x.toNat < 65536 := x.toNat_lt
theorem lt32 (x : UInt32) : x.toNat < 4294967296 := x.toNat_lt
theorem lt64 (x : UInt64) : x.toNat < 18446744073709551616 := x.toNat_lt

theorem bv64 (a : UInt64) : BitVec.ofInt 64 (a.toNat : Int) = a.toBitVec := by
  apply BitVec.eq_of_toNat_eq; simp
theorem bv8 (a : UInt8) : BitVec.ofInt 8 (a.toNat : Int) = a.toBitVec := by
  apply BitVec.eq_of_toNat_eq; simp
theorem wr64 (a : UInt64) : IntKind.u64.wrap (a.toNat : Int) = (a.toNat : Int) := by rw [IntKind.wrap_u64]; have := lt64 a; omega
theorem wr8 (a : UInt8) : IntKind.u8.wrap (a.toNat : Int) = (a.toNat : Int) := by rw [IntKind.wrap_u8']; have := lt8 a; omega

section
variable {c : Ctx} {ρ : List (Nat × Value)} {B B' B0 Br : List Own} {Φ Φ' : List Res} {Ψ : List JR} {ops : Array Oper} {rest : List Oper} {Q : Post} {d ty t : Nat} {ps : String} {af : Array Edge} {x y z : Operand} {v u : Value} {xt yt : TypeId} {m n : Int} {kk : IntKind}

theorem r_xor64 {a b : UInt64} (hx : ev ρ x = some (v64 a) := by exact rfl) (hy : ev ρ y = some (v64 b) := by exact rfl) (hb : Nat.blt d c.nt = true := by exact rfl) (k : SL c ((d, v64 (a ^^^ b)) :: ρ) B Φ Ψ ops rest Q) : SL c ρ B Φ Ψ ops (⟨some d, .binOp .xor xt x y yt, ty, ps, af, none⟩ :: rest) Q :=
  r_bin hx hy hb (fun w => by
    have e := wr64 (a ^^^ b)
    simp [eqGuard, binOp, Op.intBits, IntKind.bits] at e ⊢
    exact e) k
theorem r_and64 {a b : UInt64} (hx : ev ρ x = some (v64 a) := by exact rfl) (hy : ev ρ y = some (v64 b) := by exact rfl) (hb : Nat.blt d c.nt = true := by exact rfl) (k : SL c ((d, v64 (a &&& b)) :: ρ) B Φ Ψ ops rest Q) : SL c ρ B Φ Ψ ops (⟨some d, .binOp .and xt x y yt, ty, ps, af, none⟩ :: rest) Q :=
  r_bin hx hy hb (fun w => by
    have e := wr64 (a &&& b)
    simp [eqGuard, binOp, Op.intBits, IntKind.bits] at e ⊢
    exact e) k
theorem r_or64 {a b : UInt64} (hx : ev ρ x = some (v64 a) := by exact rfl) (hy : ev ρ y = some (v64 b) := by exact rfl) (hb : Nat.blt d c.nt = true := by exact rfl) (k : SL c ((d, v64 (a ||| b)) :: ρ) B Φ Ψ ops rest Q) : SL c ρ B Φ Ψ ops (⟨some d, .binOp .or xt x y yt, ty, ps, af, none⟩ :: rest) Q :=
  r_bin hx hy hb (fun w => by
    have e := wr64 (a ||| b)
    simp [eqGuard, binOp, Op.intBits, IntKind.bits] at e ⊢
    exact e) k
theorem r_xor8 {a b : UInt8} (hx : ev ρ x = some (v8 a) := by exact rfl) (hy : ev ρ y = some (v8 b) := by exact rfl) (hb : Nat.blt d c.nt = true := by exact rfl) (k : SL c ((d, v8 (a ^^^ b)) :: ρ) B Φ Ψ ops rest Q) : SL c ρ B Φ Ψ ops (⟨some d, .binOp .xor xt x y yt, ty, ps, af, none⟩ :: rest) Q :=
  r_bin hx hy hb (fun w => by
    have e := wr8 (a ^^^ b)
    simp [eqGuard, binOp, Op.intBits, IntKind.bits] at e ⊢
    exact e) k
theorem r_and8 {a b : UInt8} (hx : ev ρ x = some (v8 a) := by exact rfl) (hy : ev ρ y = some (v8 b) := by exact rfl) (hb : Nat.blt d c.nt = true := by exact rfl) (k : SL c ((d, v8 (a &&& b)) :: ρ) B Φ Ψ ops rest Q) : SL c ρ B Φ Ψ ops (⟨some d, .binOp .and xt x y yt, ty, ps, af, none⟩ :: rest) Q :=
  r_bin hx hy hb (fun w => by
    have e := wr8 (a &&& b)
    simp [eqGuard, binOp, Op.intBits, IntKind.bits] at e ⊢
    exact e) k
theorem r_mul64 {a b : UInt64} (hx : ev ρ x = some (v64 a) := by exact rfl) (hy : ev ρ y = some (v64 b) := by exact rfl) (hb : Nat.blt d c.nt = true := by exact rfl) (k : SL c ((d, v64 (a * b)) :: ρ) B Φ Ψ ops rest Q) : SL c ρ B Φ Ψ ops (⟨some d, .binOp .mul xt x y yt, ty, ps, af, none⟩ :: rest) Q :=
  r_mul hx hy hb (by
    have e : IntKind.u64.wrap ((a.toNat : Int) * (b.toNat : Int)) = ((a * b).toNat : Int) := by
      rw [IntKind.wrap_u64, UInt64.toNat_mul]; omega
    rw [e]; exact k)
theorem fdiv_nat (m k : Nat) : ((m : Int).fdiv ((k : Nat) : Int)) = ((m / k : Nat) : Int) := by
  rw [Int.fdiv_eq_ediv_of_nonneg _ (by omega)]; simp
/-- 'x >> n', 'x << n' by a literal below 64. -/
theorem r_shr64 {a : UInt64} {k' : IntKind} {n : Nat} (hx : ev ρ x = some (v64 a) := by exact rfl) (hy : ev ρ y = some (.int k' (n : Int)) := by exact rfl) (hn : Nat.blt n 64 = true := by exact rfl) (hb : Nat.blt d c.nt = true := by exact rfl) (k : SL c ((d, v64 (a >>> UInt64.ofNat n)) :: ρ) B Φ Ψ ops rest Q) : SL c ρ B Φ Ψ ops (⟨some d, .binOp .shr xt x y yt, ty, ps, af, none⟩ :: rest) Q :=
  r_bin hx hy hb (fun w => by
    have hn' : n < 64 := by simpa using hn
    have e : ((a >>> UInt64.ofNat n).toNat : Int) = (a.toNat : Int).fdiv (2 ^ n) := by
      have : ((2 : Int) ^ n) = ((2 ^ n : Nat) : Int) := by simp
      rw [this, fdiv_nat, UInt64.toNat_shiftRight, Nat.shiftRight_eq_div_pow]
      simp
      congr 2; omega
    have h0 : ¬ ((n : Int) < 0) := by omega
    have h1 : min n 64 = n := by omega
    simp [eqGuard, binOp, Op.shift, IntKind.bits, h1, -UInt64.toNat_shiftRight, -UInt64.toNat_shiftLeft]
    rw [if_neg h0, ← e]) k
theorem r_shl64 {a : UInt64} {k' : IntKind} {n : Nat} (hx : ev ρ x = some (v64 a) := by exact rfl) (hy : ev ρ y = some (.int k' (n : Int)) := by exact rfl) (hn : Nat.blt n 64 = true := by exact rfl) (hb : Nat.blt d c.nt = true := by exact rfl) (k : SL c ((d, v64 (a <<< UInt64.ofNat n)) :: ρ) B Φ Ψ ops rest Q) : SL c ρ B Φ Ψ ops (⟨some d, .binOp .shl xt x y yt, ty, ps, af, none⟩ :: rest) Q :=
  r_bin hx hy hb (fun w => by
    have hn' : n < 64 := by simpa using hn
    have e : ((a <<< UInt64.ofNat n).toNat : Int) = IntKind.u64.wrap ((a.toNat : Int) * 2 ^ n) := by
      rw [IntKind.wrap_u64, UInt64.toNat_shiftLeft, Nat.shiftLeft_eq]
      have h : (UInt64.ofNat n).toNat % 64 = n := by simp; omega
      rw [h]; simp
    have h0 : ¬ ((n : Int) < 0) := by omega
    have h1 : min n 64 = n := by omega
    simp [eqGuard, binOp, Op.shift, IntKind.bits, h1, -UInt64.toNat_shiftRight, -UInt64.toNat_shiftLeft]
    rw [if_neg h0, ← e]) k
theorem r_not64 {a : UInt64} (hx : ev ρ x = some (v64 a) := by exact rfl) (hb : Nat.blt d c.nt = true := by exact rfl) (k : SL c ((d, v64 (~~~a)) :: ρ) B Φ Ψ ops rest Q) : SL c ρ B Φ Ψ ops (⟨some d, .unOp .xor xt x, ty, ps, af, none⟩ :: rest) Q :=
  r_val rfl (fun _ => by simp) rfl hb (fun a' w hs => by
    have e : IntKind.u64.wrap ((BitVec.ofInt 64 18446744073709551615 ^^^ a.toBitVec).toNat : Int) = ((~~~a).toNat : Int) := by
      have : (BitVec.ofInt 64 18446744073709551615 ^^^ a.toBitVec) = (~~~a).toBitVec := by
        have : BitVec.ofInt 64 18446744073709551615 = BitVec.allOnes 64 := by decide
        rw [this, BitVec.allOnes_xor]; rfl
      rw [this]; exact wr64 (~~~a)
    simp only [v64, ← e]
    simp only [execOp, hs.ev hx, Op.unary, Op.intBits]
    rw [show BitVec.ofInt IntKind.u64.bits (a.toNat : Int) = a.toBitVec from bv64 a]
    rfl) k

/-! ### Conversions -/
theorem r_cv {st dt : TypeId} {k' : IntKind} {r : Int} (ht : tInt c.P dt = some kk) (hs' : tInt c.P st = some k') (hx : ev ρ x = some (.int k' m)) (he : kk.wrap m = r) (hb : Nat.blt d c.nt = true) (k : SL c ((d, .int kk r) :: ρ) B Φ Ψ ops rest Q) :
    SL c ρ B Φ Ψ ops (⟨some d, .convert st dt x, ty, ps, af, none⟩ :: rest) Q :=
  r_conv ht (fun w => by
    unfold tInt at hs'
    split at hs'
    · rename_i h; exact ⟨_, run_underlying h w⟩
    · cases hs') hx hb (he ▸ k)
theorem cv_8_64 (a : UInt8) : IntKind.u64.wrap (a.toNat : Int) = (a.toUInt64.toNat : Int) := by rw [IntKind.wrap_u64]; have := lt8 a; simp; omega
theorem cv_16_64 (a : UInt16) : IntKind.u64.wrap (a.toNat : Int) = (a.toUInt64.toNat : Int) := by rw [IntKind.wrap_u64]; have := lt16 a; simp; omega
theorem cv_32_64 (a : UInt32) : IntKind.u64.wrap (a.toNat : Int) = (a.toUInt64.toNat : Int) := by rw [IntKind.wrap_u64]; have := lt32 a; simp; omega
theorem cv_64_8 (a : UInt64) : IntKind.u8.wrap (a.toNat : Int) = (a.toUInt8.toNat : Int) := by rw [IntKind.wrap_u8']; simp
theorem cv_64_16 (a : UInt64) : IntKind.u16.wrap (a.toNat : Int) = (a.toUInt16.toNat : Int) := by rw [IntKind.wrap_u16]; simp
theorem cv_64_32 (a : UInt64) : IntKind.u32.wrap (a.toNat : Int) = (a.toUInt32.toNat : Int) := by rw [IntKind.wrap_u32']; simp
theorem cv_8_i (a : UInt8) : IntKind.i64.wrap (a.toNat : Int) = (a.toNat : Int) := wrap_in (by omega) (by have := lt8 a; omega)
theorem cv_16_i (a : UInt16) : IntKind.i64.wrap (a.toNat : Int) = (a.toNat : Int) := wrap_in (by omega) (by have := lt16 a; omega)
theorem cv_32_i (a : UInt32) : IntKind.i64.wrap (a.toNat : Int) = (a.toNat : Int) := wrap_in (by omega) (by have := lt32 a; omega)
theorem cv_i_8 (n : Nat) : IntKind.u8.wrap (n : Int) = ((UInt8.ofNat n).toNat : Int) := by rw [IntKind.wrap_u8']; simp
theorem cv_i_16 (n : Nat) : IntKind.u16.wrap (n : Int) = ((UInt16.ofNat n).toNat : Int) := by rw [IntKind.wrap_u16]; simp
theorem cv_i_32 (n : Nat) : IntKind.u32.wrap (n : Int) = ((UInt32.ofNat n).toNat : Int) := by rw [IntKind.wrap_u32']; simp
theorem cv_8_8 (a : UInt8) : IntKind.u8.wrap (a.toNat : Int) = (a.toNat : Int) := wr8 a

theorem r_cv_64_8 {a : UInt64} {st dt : TypeId} (ht : tInt c.P dt = some .u8 := by exact ti rfl) (hs' : tInt c.P st = some .u64 := by exact ti rfl) (hx : ev ρ x = some (v64 a) := by exact rfl) (hb : Nat.blt d c.nt = true := by exact rfl) (k : SL c ((d, v8 a.toUInt8) :: ρ) B Φ Ψ ops rest Q) : SL c ρ B Φ Ψ ops (⟨some d, .convert st dt x, ty, ps, af, none⟩ :: rest) Q := r_cv ht hs' hx (cv_64_8 a) hb k
theorem r_cv_64_16 {a : UInt64} {st dt : TypeId} (ht : tInt c.P dt = some .u16 := by exact ti rfl) (hs' : tInt c.P st = some .u64 := by exact ti rfl) (hx : ev ρ x = some (v64 a) := by exact rfl) (hb : Nat.blt d c.nt = true := by exact rfl) (k : SL c ((d, v16 a.toUInt16) :: ρ) B Φ Ψ ops rest Q) : SL c ρ B Φ Ψ ops (⟨some d, .convert st dt x, ty, ps, af, none⟩ :: rest) Q := r_cv ht hs' hx (cv_64_16 a) hb k
theorem r_cv_64_32 {a : UInt64} {st dt : TypeId} (ht : tInt c.P dt = some .u32 := by exact ti rfl) (hs' : tInt c.P st = some .u64 := by exact ti rfl) (hx : ev ρ x = some (v64 a) := by exact rfl) (hb : Nat.blt d c.nt = true := by exact rfl) (k : SL c ((d, v32 a.toUInt32) :: ρ) B Φ Ψ ops rest Q) : SL c ρ B Φ Ψ ops (⟨some d, .convert st dt x, ty, ps, af, none⟩ :: rest) Q := r_cv ht hs' hx (cv_64_32 a) hb k
theorem r_cv_8_64 {a : UInt8} {st dt : TypeId} (ht : tInt c.P dt = some .u64 := by exact ti rfl) (hs' : tInt c.P st = some .u8 := by exact ti rfl) (hx : ev ρ x = some (v8 a) := by exact rfl) (hb : Nat.blt d c.nt = true := by exact rfl) (k : SL c ((d, v64 a.toUInt64) :: ρ) B Φ Ψ ops rest Q) : SL c ρ B Φ Ψ ops (⟨some d, .convert st dt x, ty, ps, af, none⟩ :: rest) Q := r_cv ht hs' hx (cv_8_64 a) hb k
theorem r_cv_16_64 {a : UInt16} {st dt : TypeId} (ht : tInt c.P dt = some .u64 := by exact ti rfl) (hs' : tInt c.P st = some .u16 := by exact ti rfl) (hx : ev ρ x = some (v16 a) := by exact rfl) (hb : Nat.blt d c.nt = true := by exact rfl) (k : SL c ((d, v64 a.toUInt64) :: ρ) B Φ Ψ ops rest Q) : SL c ρ B Φ Ψ ops (⟨some d, .convert st dt x, ty, ps, af, none⟩ :: rest) Q := r_cv ht hs' hx (cv_16_64 a) hb k
theorem r_cv_32_64 {a : UInt32} {st dt : TypeId} (ht : tInt c.P dt = some .u64 := by exact ti rfl) (hs' : tInt c.P st = some .u32 := by exact ti rfl) (hx : ev ρ x = some (v32 a) := by exact rfl) (hb : Nat.blt d c.nt = true := by exact rfl) (k : SL c ((d, v64 a.toUInt64) :: ρ) B Φ Ψ ops rest Q) : SL c ρ B Φ Ψ ops (⟨some d, .convert st dt x, ty, ps, af, none⟩ :: rest) Q := r_cv ht hs' hx (cv_32_64 a) hb k
theorem r_cv_8_i {a : UInt8} {st dt : TypeId} (ht : tInt c.P dt = some .i64 := by exact ti rfl) (hs' : tInt c.P st = some .u8 := by exact ti rfl) (hx : ev ρ x = some (v8 a) := by exact rfl) (hb : Nat.blt d c.nt = true := by exact rfl) (k : SL c ((d, vi (a.toNat : Int)) :: ρ) B Φ Ψ ops rest Q) : SL c ρ B Φ Ψ ops (⟨some d, .convert st dt x, ty, ps, af, none⟩ :: rest) Q := r_cv ht hs' hx (cv_8_i a) hb k
theorem r_cv_16_i {a : UInt16} {st dt : TypeId} (ht : tInt c.P dt = some .i64 := by exact ti rfl) (hs' : tInt c.P st = some .u16 := by exact ti rfl) (hx : ev ρ x = some (v16 a) := by exact rfl) (hb : Nat.blt d c.nt = true := by exact rfl) (k : SL c ((d, vi (a.toNat : Int)) :: ρ) B Φ Ψ ops rest Q) : SL c ρ B Φ Ψ ops (⟨some d, .convert st dt x, ty, ps, af, none⟩ :: rest) Q := r_cv ht hs' hx (cv_16_i a) hb k
theorem r_cv_32_i {a : UInt32} {st dt : TypeId} (ht : tInt c.P dt = some .i64 := by exact ti rfl) (hs' : tInt c.P st = some .u32 := by exact ti rfl) (hx : ev ρ x = some (v32 a) := by exact rfl) (hb : Nat.blt d c.nt = true := by exact rfl) (k : SL c ((d, vi (a.toNat : Int)) :: ρ) B Φ Ψ ops rest Q) : SL c ρ B Φ Ψ ops (⟨some d, .convert st dt x, ty, ps, af, none⟩ :: rest) Q := r_cv ht hs' hx (cv_32_i a) hb k
theorem r_cv_i_8 {n : Nat} {st dt : TypeId} (ht : tInt c.P dt = some .u8 := by exact ti rfl) (hs' : tInt c.P st = some .i64 := by exact ti rfl) (hx : ev ρ x = some (vi (n : Int)) := by exact rfl) (hb : Nat.blt d c.nt = true := by exact rfl) (k : SL c ((d, v8 (UInt8.ofNat n)) :: ρ) B Φ Ψ ops rest Q) : SL c ρ B Φ Ψ ops (⟨some d, .convert st dt x, ty, ps, af, none⟩ :: rest) Q := r_cv ht hs' hx (cv_i_8 n) hb k

/-! ### Unsigned remainders, comparisons -/
theorem r_rem32 {a b : UInt32} (hx : ev ρ x = some (v32 a)) (hy : ev ρ y = some (v32 b)) (h0 : b ≠ 0) (hb : Nat.blt d c.nt = true) (k : SL c ((d, v32 (a % b)) :: ρ) B Φ Ψ ops rest Q) : SL c ρ B Φ Ψ ops (⟨some d, .binOp .rem xt x y yt, ty, ps, af, none⟩ :: rest) Q :=
  r_bin hx hy hb (fun w => by
    have hb0 : ¬ ((b.toNat : Int) = 0) := fun e => h0 (by
      have : b.toNat = 0 := by omega
      exact UInt32.toNat_inj.1 (by simpa using this))
    have e : ((a % b).toNat : Int) = (a.toNat : Int).tmod (b.toNat : Int) := by rw [UInt32.toNat_mod]; exact (Int.ofNat_tmod _ _)
    simp only [eqGuard, binOp, Op.intDiv]
    rw [if_neg hb0, ← e]; rfl) k
theorem r_rem_i {a b : Int} (hx : ev ρ x = some (vi a)) (hy : ev ρ y = some (vi b)) (h0 : b ≠ 0) (hb : Nat.blt d c.nt = true) (k : SL c ((d, vi (a.tmod b)) :: ρ) B Φ Ψ ops rest Q) : SL c ρ B Φ Ψ ops (⟨some d, .binOp .rem xt x y yt, ty, ps, af, none⟩ :: rest) Q :=
  r_bin hx hy hb (fun w => by
    simp [eqGuard, binOp, Op.intDiv, h0]) k

/-! ### The same with a literal -/
theorem r_and64c {a : UInt64} {n : Nat} (hx : ev ρ x = some (v64 a) := by exact rfl) (hy : ev ρ y = some (.int .u64 (n : Int)) := by exact rfl) (hn : (UInt64.ofNat n).toNat = n := by exact rfl) (hb : Nat.blt d c.nt = true := by exact rfl) (k : SL c ((d, v64 (a &&& UInt64.ofNat n)) :: ρ) B Φ Ψ ops rest Q) : SL c ρ B Φ Ψ ops (⟨some d, .binOp .and xt x y yt, ty, ps, af, none⟩ :: rest) Q :=
  r_and64 hx (by rw [hy, v64, hn]) hb k
theorem r_mul64c {a : UInt64} {n : Nat} (hx : ev ρ x = some (.int .u64 (n : Int)) := by exact rfl) (hy : ev ρ y = some (v64 a) := by exact rfl) (hn : (UInt64.ofNat n).toNat = n := by exact rfl) (hb : Nat.blt d c.nt = true := by exact rfl) (k : SL c ((d, v64 (UInt64.ofNat n * a)) :: ρ) B Φ Ψ ops rest Q) : SL c ρ B Φ Ψ ops (⟨some d, .binOp .mul xt x y yt, ty, ps, af, none⟩ :: rest) Q :=
  r_mul64 (by rw [hx, v64, hn]) hy hb k
theorem r_and8c {a : UInt8} {n : Nat} (hx : ev ρ x = some (v8 a) := by exact rfl) (hy : ev ρ y = some (.int .u8 (n : Int)) := by exact rfl) (hn : (UInt8.ofNat n).toNat = n := by exact rfl) (hb : Nat.blt d c.nt = true := by exact rfl) (k : SL c ((d, v8 (a &&& UInt8.ofNat n)) :: ρ) B Φ Ψ ops rest Q) : SL c ρ B Φ Ψ ops (⟨some d, .binOp .and xt x y yt, ty, ps, af, none⟩ :: rest) Q :=
  r_and8 hx (by rw [hy, v8, hn]) hb k
theorem r_rem32c {a : UInt32} {n : Nat} (hx : ev ρ x = some (v32 a) := by exact rfl) (hy : ev ρ y = some (.int .u32 (n : Int)) := by exact rfl) (hn : (UInt32.ofNat n).toNat = n := by exact rfl) (h0 : Nat.beq n 0 = false := by exact rfl) (hb : Nat.blt d c.nt = true := by exact rfl) (k : SL c ((d, v32 (a % UInt32.ofNat n)) :: ρ) B Φ Ψ ops rest Q) : SL c ρ B Φ Ψ ops (⟨some d, .binOp .rem xt x y yt, ty, ps, af, none⟩ :: rest) Q :=
  r_rem32 hx (by rw [hy, v32, hn]) (fun e => ne_of_beq h0 (by rw [e] at hn; exact hn.symm)) hb k
/-- Sums of unsigned numbers. -/
theorem r_add32 {a b : UInt32} (hx : ev ρ x = some (v32 a) := by exact rfl) (hy : ev ρ y = some (v32 b) := by exact rfl) (hb : Nat.blt d c.nt = true := by exact rfl) (k : SL c ((d, v32 (a + b)) :: ρ) B Φ Ψ ops rest Q) : SL c ρ B Φ Ψ ops (⟨some d, .binOp .add xt x y yt, ty, ps, af, none⟩ :: rest) Q :=
  r_add hx hy hb (by
    have e : IntKind.u32.wrap ((a.toNat : Int) + (b.toNat : Int)) = ((a + b).toNat : Int) := by
      rw [IntKind.wrap_u32', UInt32.toNat_add]; omega
    rw [e]; exact k)
theorem r_add32c {a : UInt32} {n : Nat} (hx : ev ρ x = some (v32 a) := by exact rfl) (hy : ev ρ y = some (.int .u32 (n : Int)) := by exact rfl) (hn : (UInt32.ofNat n).toNat = n := by exact rfl) (hb : Nat.blt d c.nt = true := by exact rfl) (k : SL c ((d, v32 (a + UInt32.ofNat n)) :: ρ) B Φ Ψ ops rest Q) : SL c ρ B Φ Ψ ops (⟨some d, .binOp .add xt x y yt, ty, ps, af, none⟩ :: rest) Q :=
  r_add32 hx (by rw [hy, v32, hn]) hb k

/-! ### 'min', 'max' -/
theorem r_min {a b : Int} {at' : Array TypeId} (hx : ev ρ x = some (.int kk a) := by exact rfl) (hy : ev ρ y = some (.int kk b) := by exact rfl) (hb : Nat.blt d c.nt = true := by exact rfl) (k : SL c ((d, .int kk (if b < a then b else a)) :: ρ) B Φ Ψ ops rest Q) : SL c ρ B Φ Ψ ops (⟨some d, .call ⟨.builtin .min, #[x, y], at'⟩, ty, ps, af, none⟩ :: rest) Q :=
  r_val rfl (fun _ => by simp) rfl hb (fun a' w hs => by
    by_cases h : b < a <;> simp [execOp, resolve, invoke, builtin, hs.ev hx, hs.ev hy, Builtin.min_, Builtin.min2, h]) k
theorem r_max {a b : Int} {at' : Array TypeId} (hx : ev ρ x = some (.int kk a) := by exact rfl) (hy : ev ρ y = some (.int kk b) := by exact rfl) (hb : Nat.blt d c.nt = true := by exact rfl) (k : SL c ((d, .int kk (if a < b then b else a)) :: ρ) B Φ Ψ ops rest Q) : SL c ρ B Φ Ψ ops (⟨some d, .call ⟨.builtin .max, #[x, y], at'⟩, ty, ps, af, none⟩ :: rest) Q :=
  r_val rfl (fun _ => by simp) rfl hb (fun a' w hs => by
    by_cases h : a < b <;> simp [execOp, resolve, invoke, builtin, hs.ev hx, hs.ev hy, Builtin.max_, Builtin.max2, h]) k
end
end Go.Proofs.YtjahiohlekdhoaaDoor
