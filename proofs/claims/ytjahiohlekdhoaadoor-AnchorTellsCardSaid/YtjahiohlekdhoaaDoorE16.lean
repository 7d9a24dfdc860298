/-
  The engine, part 16: more on whole numbers.
-/
import Derived.Test.YtjahiohlekdhoaaDoorE15
namespace Go.Proofs.YtjahiohlekdhoaaDoor
open Go
section
variable {c : Ctx} {ρ : List (Nat × Value)} {B : List Own} {Φ : List Res} {Ψ : List JR} {ops : Array Oper} {rest : List Oper} {Q : Post} {d ty t : Nat} {ps : String} {af : Array Edge} {x y z : Operand} {xt yt : TypeId} {m n : Int}
theorem r_xor64c {a : UInt64} {n : Nat} (hx : ev ρ x = some (v64 a) := by exact rfl) (hy : ev ρ y = some (.int .u64 (n : Int)) := by exact rfl) (hn : (UInt64.ofNat n).toNat = n := by exact rfl) (hb : Nat.blt d c.nt = true := by exact rfl) (k : SL c ((d, v64 (a ^^^ UInt64.ofNat n)) :: ρ) B Φ Ψ ops rest Q) : SL c ρ B Φ Ψ ops (⟨some d, .binOp .xor xt x y yt, ty, ps, af, none⟩ :: rest) Q :=
  r_xor64 hx (by rw [hy, v64, hn]) hb k
theorem r_mulI (hx : ev ρ x = some (vi m) := by exact rfl) (hy : ev ρ y = some (vi n) := by exact rfl) (hb : Nat.blt d c.nt = true := by exact rfl) (h1 : -9223372036854775808 ≤ m * n := by omega) (h2 : m * n ≤ 9223372036854775807 := by omega) (k : SL c ((d, vi (m * n)) :: ρ) B Φ Ψ ops rest Q) :
    SL c ρ B Φ Ψ ops (⟨some d, .binOp .mul xt x y yt, ty, ps, af, none⟩ :: rest) Q := r_mul hx hy hb (by rw [wrap_in h1 h2]; exact k)
theorem r_cv_i_u {n : Nat} {st dt : TypeId} (ht : tInt c.P dt = some .u64 := by exact ti rfl) (hs' : tInt c.P st = some .i64 := by exact ti rfl) (hx : ev ρ x = some (vi (n : Int)) := by exact rfl) (hn : n ≤ 9223372036854775807 := by omega) (hb : Nat.blt d c.nt = true := by exact rfl) (k : SL c ((d, .int .u64 (n : Int)) :: ρ) B Φ Ψ ops rest Q) : SL c ρ B Φ Ψ ops (⟨some d, .convert st dt x, ty, ps, af, none⟩ :: rest) Q :=
  r_cv ht hs' hx (by rw [IntKind.wrap_u64]; omega) hb k
theorem q_xor8 {a b : UInt8} (hx : ev ρ x = some (v8 a) := by exact rfl) (hy : ev ρ y = some (v8 b) := by exact rfl) : Qt c ρ B Φ Ψ (.binOp .xor xt x y yt) ty (v8 (a ^^^ b)) := q_bin hx hy (fun w => by
  have e := wr8 (a ^^^ b)
  simp [eqGuard, binOp, Op.intBits, IntKind.bits] at e ⊢
  exact e)
theorem q_addI {r : Int} (hx : ev ρ x = some (vi m)) (hy : ev ρ y = some (vi n)) (e : m + n = r) (h1 : -9223372036854775808 ≤ r) (h2 : r ≤ 9223372036854775807) : Qt c ρ B Φ Ψ (.binOp .add xt x y yt) ty (vi r) := by
  subst e; exact q_add64 hx hy h1 h2
theorem q_subI {r : Int} (hx : ev ρ x = some (vi m)) (hy : ev ρ y = some (vi n)) (e : m - n = r) (h1 : -9223372036854775808 ≤ r) (h2 : r ≤ 9223372036854775807) : Qt c ρ B Φ Ψ (.binOp .sub xt x y yt) ty (vi r) := by
  subst e; exact q_sub64 hx hy h1 h2
theorem ra_re {I : List Nat → World → Prop} {todo : List Nat} {t : Nat} {v v' : Value} (hx : lk ρ t = some v) (e : v = v') (k : RA c I ((t, v') :: ρ) B Φ Ψ ops todo Q) : RA c I ρ B Φ Ψ ops todo Q := fun a w hs => k a w ⟨hs.nt, fun s u hu => by
  rw [lk_cons] at hu
  split at hu
  · rename_i h; subst h; cases hu; subst e; exact hs.reg _ _ hx
  · exact hs.reg s u hu, hs.dfr, hs.mem⟩
end
end Go.Proofs.YtjahiohlekdhoaaDoor
