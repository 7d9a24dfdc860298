/-
  The engine, part 13: operations that only read, in regions that draw their order.
-/
import Derived.Test.YtjahiohlekdhoaaDoorE12
namespace Go.Proofs.YtjahiohlekdhoaaDoor
open Go
section
variable {c : Ctx} {ρ : List (Nat × Value)} {B : List Own} {Φ : List Res} {Ψ : List JR} {ty t : Nat} {x y z : Operand} {v u : Value} {xt yt : TypeId} {m n : Int} {kk : IntKind} {e sz by' : Nat} {ba : Option Addr} {cs : List Value}

theorem q_move (hx : ev ρ x = some v := by exact rfl) : Qt c ρ B Φ Ψ (.move x) ty v := fun a w hs d ps af g => by simp [execOp, hs.ev hx]
theorem q_assign (hx : ev ρ x = some v := by exact rfl) : Qt c ρ B Φ Ψ (.assign x) ty v := fun a w hs d ps af g => by simp [execOp, hs.ev hx]
theorem q_pick_t (hx : ev ρ x = some (.bool true) := by exact rfl) (hy : ev ρ y = some v := by exact rfl) : Qt c ρ B Φ Ψ (.pick x y z) ty v := fun a w hs d ps af g => by simp [execOp, hs.ev hx, hs.ev hy, asBool]
theorem q_pick_f (hx : ev ρ x = some (.bool false) := by exact rfl) (hz : ev ρ z = some v := by exact rfl) : Qt c ρ B Φ Ψ (.pick x y z) ty v := fun a w hs d ps af g => by simp [execOp, hs.ev hx, hs.ev hz, asBool]
theorem q_extract {vs : Array Value} {i : Nat} (hx : ev ρ x = some (.tuple vs)) (hi : vs[i]? = some v) : Qt c ρ B Φ Ψ (.extract x i) ty v := fun a w hs d ps af g => by simp [execOp, hs.ev hx, Instr.extract, hi]
theorem q_ext {l : List Value} {i : Nat} (hx : ev ρ x = some (.tuple l.toArray) := by exact rfl) (hi : l[i]? = some v := by exact rfl) : Qt c ρ B Φ Ψ (.extract x i) ty v := q_extract hx (by simpa using hi)
theorem q_not {p : Bool} (hx : ev ρ x = some (.bool p) := by exact rfl) : Qt c ρ B Φ Ψ (.unOp .not xt x) ty (.bool (!p)) := fun a w hs d ps af g => by simp [execOp, hs.ev hx, Op.unary]
theorem q_bin {op : BinOp} (hx : ev ρ x = some u) (hy : ev ρ y = some v) {r : Value} (hrun : ∀ w, ((do eqGuard op xt x y u v; binOp op xt u v) : Sem Value).run c.P w = .ok r w) : Qt c ρ B Φ Ψ (.binOp op xt x y yt) ty r := fun a w hs d ps af g => by
  have h := hrun w
  simp only [Sem.run_bind] at h
  simp only [execOp, hs.ev hx, hs.ev hy, Sem.run_bind, h, Result.andThen_ok, Sem.run_pure]
theorem q_lss (hx : ev ρ x = some (.int kk m) := by exact rfl) (hy : ev ρ y = some (.int kk n) := by exact rfl) : Qt c ρ B Φ Ψ (.binOp .lss xt x y yt) ty (.bool (decide (m < n))) := q_bin hx hy (fun w => by simp [eqGuard, binOp, Op.intCmp])
theorem q_leq (hx : ev ρ x = some (.int kk m) := by exact rfl) (hy : ev ρ y = some (.int kk n) := by exact rfl) : Qt c ρ B Φ Ψ (.binOp .leq xt x y yt) ty (.bool (decide (m ≤ n))) := q_bin hx hy (fun w => by simp [eqGuard, binOp, Op.intCmp])
theorem q_gtr (hx : ev ρ x = some (.int kk m) := by exact rfl) (hy : ev ρ y = some (.int kk n) := by exact rfl) : Qt c ρ B Φ Ψ (.binOp .gtr xt x y yt) ty (.bool (decide (n < m))) := q_bin hx hy (fun w => by simp [eqGuard, binOp, Op.intCmp])
theorem q_geq (hx : ev ρ x = some (.int kk m) := by exact rfl) (hy : ev ρ y = some (.int kk n) := by exact rfl) : Qt c ρ B Φ Ψ (.binOp .geq xt x y yt) ty (.bool (decide (n ≤ m))) := q_bin hx hy (fun w => by simp [eqGuard, binOp, Op.intCmp])
theorem q_eql (hx : ev ρ x = some (.int kk m) := by exact rfl) (hy : ev ρ y = some (.int kk n) := by exact rfl) : Qt c ρ B Φ Ψ (.binOp .eql xt x y yt) ty (.bool (decide (m = n))) := q_bin hx hy (fun w => by
  have e : (m == n) = decide (m = n) := by by_cases h : m = n <;> simp [h]
  simp [eqGuard, binOp, Op.intCmp, e])
theorem q_neq (hx : ev ρ x = some (.int kk m) := by exact rfl) (hy : ev ρ y = some (.int kk n) := by exact rfl) : Qt c ρ B Φ Ψ (.binOp .neq xt x y yt) ty (.bool (decide (m ≠ n))) := q_bin hx hy (fun w => by
  have e : (m != n) = decide (m ≠ n) := by by_cases h : m = n <;> simp [h]
  simp [eqGuard, binOp, Op.intCmp, e])
theorem q_add64 (hx : ev ρ x = some (.int .i64 m) := by exact rfl) (hy : ev ρ y = some (.int .i64 n) := by exact rfl) (h1 : -9223372036854775808 ≤ m + n := by omega) (h2 : m + n ≤ 9223372036854775807 := by omega) : Qt c ρ B Φ Ψ (.binOp .add xt x y yt) ty (.int .i64 (m + n)) := q_bin hx hy (fun w => by simp [eqGuard, binOp, Op.intArith, wrap_in h1 h2])
theorem q_sub64 (hx : ev ρ x = some (.int .i64 m) := by exact rfl) (hy : ev ρ y = some (.int .i64 n) := by exact rfl) (h1 : -9223372036854775808 ≤ m - n := by omega) (h2 : m - n ≤ 9223372036854775807 := by omega) : Qt c ρ B Φ Ψ (.binOp .sub xt x y yt) ty (.int .i64 (m - n)) := q_bin hx hy (fun w => by simp [eqGuard, binOp, Op.intArith, wrap_in h1 h2])
theorem q_cv {st dt : TypeId} {k' : IntKind} {r : Int} (ht : tInt c.P dt = some kk) (hs' : tInt c.P st = some k') (hx : ev ρ x = some (.int k' m)) (he : kk.wrap m = r) : Qt c ρ B Φ Ψ (.convert st dt x) ty (.int kk r) := fun a w hs d ps af g => by
  have hk : c.P.underlying dt = some (.int kk) := by
    unfold tInt at ht
    split at ht
    · rename_i h; cases ht; exact h
    · cases ht
  have hk' : c.P.underlying st = some (.int k') := by
    unfold tInt at hs'
    split at hs'
    · rename_i h; cases hs'; exact h
    · cases hs'
  simp only [execOp, hs.ev hx, convert, Sem.run_bind, run_underlying hk' w, Result.andThen_ok, run_underlying hk w]
  simp [Conv.intToInt, he]
theorem q_cv_64_8 {a : UInt64} {st dt : TypeId} (ht : tInt c.P dt = some .u8 := by exact ti rfl) (hs' : tInt c.P st = some .u64 := by exact ti rfl) (hx : ev ρ x = some (v64 a) := by exact rfl) : Qt c ρ B Φ Ψ (.convert st dt x) ty (v8 a.toUInt8) := q_cv ht hs' hx (cv_64_8 a)
theorem q_cv_64_16 {a : UInt64} {st dt : TypeId} (ht : tInt c.P dt = some .u16 := by exact ti rfl) (hs' : tInt c.P st = some .u64 := by exact ti rfl) (hx : ev ρ x = some (v64 a) := by exact rfl) : Qt c ρ B Φ Ψ (.convert st dt x) ty (v16 a.toUInt16) := q_cv ht hs' hx (cv_64_16 a)
theorem q_cv_64_32 {a : UInt64} {st dt : TypeId} (ht : tInt c.P dt = some .u32 := by exact ti rfl) (hs' : tInt c.P st = some .u64 := by exact ti rfl) (hx : ev ρ x = some (v64 a) := by exact rfl) : Qt c ρ B Φ Ψ (.convert st dt x) ty (v32 a.toUInt32) := q_cv ht hs' hx (cv_64_32 a)
theorem q_cv_8_64 {a : UInt8} {st dt : TypeId} (ht : tInt c.P dt = some .u64 := by exact ti rfl) (hs' : tInt c.P st = some .u8 := by exact ti rfl) (hx : ev ρ x = some (v8 a) := by exact rfl) : Qt c ρ B Φ Ψ (.convert st dt x) ty (v64 a.toUInt64) := q_cv ht hs' hx (cv_8_64 a)
theorem q_cv_8_i {a : UInt8} {st dt : TypeId} (ht : tInt c.P dt = some .i64 := by exact ti rfl) (hs' : tInt c.P st = some .u8 := by exact ti rfl) (hx : ev ρ x = some (v8 a) := by exact rfl) : Qt c ρ B Φ Ψ (.convert st dt x) ty (vi (a.toNat : Int)) := q_cv ht hs' hx (cv_8_i a)

theorem q_len {cap n : Nat} {at' : Nat} (ht : tSl c.P at' = some (e, sz, by') := by exact tl rfl) (hx : ev ρ x = some (.slice ba n cap) := by exact rfl) : Qt c ρ B Φ Ψ (.call ⟨.builtin .len, #[x], #[at']⟩) ty (.int .i64 n) := fun a w hs d ps af g => by
  obtain ⟨hu, _⟩ := tSl_inv ht
  simp [execOp, resolve, invoke, builtin, hs.ev hx, Builtin.len_, run_underlying hu, goInt]

theorem q_load_one {b off s : Nat} {bt : TypeId} (ht : tSz c.P t = some (false, s) := by exact tz rfl) (hx : ev ρ x = some (.pointer (some ⟨b, off, none⟩)) := by exact rfl) (hB : Own.box b cs bt ∈ B := by first | exact .head _ | exact .tail _ (.head _) | exact .tail _ (.tail _ (.head _)) | exact .tail _ (.tail _ (.tail _ (.head _))) | exact .tail _ (.tail _ (.tail _ (.tail _ (.head _)))) | exact .tail _ (.tail _ (.tail _ (.tail _ (.tail _ (.head _))))) | exact .tail _ (.tail _ (.tail _ (.tail _ (.tail _ (.tail _ (.head _)))))) | exact .tail _ (.tail _ (.tail _ (.tail _ (.tail _ (.tail _ (.tail _ (.head _))))))) | exact .tail _ (.tail _ (.tail _ (.tail _ (.tail _ (.tail _ (.tail _ (.tail _ (.head _)))))))) | exact .tail _ (.tail _ (.tail _ (.tail _ (.tail _ (.tail _ (.tail _ (.tail _ (.tail _ (.head _))))))))) | exact .tail _ (.tail _ (.tail _ (.tail _ (.tail _ (.tail _ (.tail _ (.tail _ (.tail _ (.tail _ (.head _)))))))))) | exact .tail _ (.tail _ (.tail _ (.tail _ (.tail _ (.tail _ (.tail _ (.tail _ (.tail _ (.tail _ (.tail _ (.head _)))))))))))) (hv : cs[off]? = some v := by exact rfl) : Qt c ρ B Φ Ψ (.load t x) ty v := fun a w hs d ps af g => by
  obtain ⟨V, U, M, m⟩ := hs.mem
  simp [execOp, hs.ev hx, Instr.loadAt, Instr.sureAddr, run_load_box_one ht (m.sep.holds _ hB) hv]
theorem q_load_agg {b off s : Nat} {vs : List Value} {bt : TypeId} (ht : tSz c.P t = some (true, s)) (hx : ev ρ x = some (.pointer (some ⟨b, off, none⟩))) (hB : Own.box b cs bt ∈ B) (hv : (cs.drop off).take s = vs) (hl : vs.length = s) : Qt c ρ B Φ Ψ (.load t x) ty (.agg vs.toArray) := fun a w hs d ps af g => by
  obtain ⟨V, U, M, m⟩ := hs.mem
  simp [execOp, hs.ev hx, Instr.loadAt, Instr.sureAddr, run_load_box_agg ht (m.sep.holds _ hB) hv hl]
theorem q_load_all {b s : Nat} {bt : TypeId} (ht : tSz c.P t = some (true, s) := by exact tz rfl) (hx : ev ρ x = some (.pointer (some ⟨b, 0, none⟩)) := by exact rfl) (hB : Own.box b cs bt ∈ B := by first | exact .head _ | exact .tail _ (.head _) | exact .tail _ (.tail _ (.head _)) | exact .tail _ (.tail _ (.tail _ (.head _))) | exact .tail _ (.tail _ (.tail _ (.tail _ (.head _)))) | exact .tail _ (.tail _ (.tail _ (.tail _ (.tail _ (.head _))))) | exact .tail _ (.tail _ (.tail _ (.tail _ (.tail _ (.tail _ (.head _)))))) | exact .tail _ (.tail _ (.tail _ (.tail _ (.tail _ (.tail _ (.tail _ (.head _))))))) | exact .tail _ (.tail _ (.tail _ (.tail _ (.tail _ (.tail _ (.tail _ (.tail _ (.head _)))))))) | exact .tail _ (.tail _ (.tail _ (.tail _ (.tail _ (.tail _ (.tail _ (.tail _ (.tail _ (.head _))))))))) | exact .tail _ (.tail _ (.tail _ (.tail _ (.tail _ (.tail _ (.tail _ (.tail _ (.tail _ (.tail _ (.head _)))))))))) | exact .tail _ (.tail _ (.tail _ (.tail _ (.tail _ (.tail _ (.tail _ (.tail _ (.tail _ (.tail _ (.tail _ (.head _)))))))))))) (hl : cs.length = s := by exact rfl) : Qt c ρ B Φ Ψ (.load t x) ty (.agg cs.toArray) :=
  q_load_agg ht hx hB (by rw [List.drop_zero]; exact List.take_of_length_le (Nat.le_of_eq hl)) hl
theorem q_load_mem1 {o s : Nat} (ht : tSz c.P t = some (false, s)) (hx : ev ρ x = some (pAt ba o)) (hm : Res.mem ba cs ∈ Φ) (hv : cs[o]? = some v) : Qt c ρ B Φ Ψ (.load t x) ty v := fun a w hs d ps af g => by
  obtain ⟨V, U, M, ms⟩ := hs.mem
  obtain ⟨ad, rfl, _, hc⟩ := ms.phi _ hm _ _ hv
  simp [execOp, hs.ev hx, pAt, Instr.loadAt, Instr.sureAddr, run_loadVar_one ht hc]
theorem q_load_fr1 {b o s : Nat} (ht : tSz c.P t = some (false, s) := by exact tz rfl) (hx : ev ρ x = some (.pointer (some ⟨b, o, none⟩)) := by exact rfl) (hm : Res.mem (some ⟨b, 0, none⟩) cs ∈ Φ := by first | exact .head _ | exact .tail _ (.head _) | exact .tail _ (.tail _ (.head _)) | exact .tail _ (.tail _ (.tail _ (.head _))) | exact .tail _ (.tail _ (.tail _ (.tail _ (.head _)))) | exact .tail _ (.tail _ (.tail _ (.tail _ (.tail _ (.head _))))) | exact .tail _ (.tail _ (.tail _ (.tail _ (.tail _ (.tail _ (.head _)))))) | exact .tail _ (.tail _ (.tail _ (.tail _ (.tail _ (.tail _ (.tail _ (.head _))))))) | exact .tail _ (.tail _ (.tail _ (.tail _ (.tail _ (.tail _ (.tail _ (.tail _ (.head _)))))))) | exact .tail _ (.tail _ (.tail _ (.tail _ (.tail _ (.tail _ (.tail _ (.tail _ (.tail _ (.head _))))))))) | exact .tail _ (.tail _ (.tail _ (.tail _ (.tail _ (.tail _ (.tail _ (.tail _ (.tail _ (.tail _ (.head _)))))))))) | exact .tail _ (.tail _ (.tail _ (.tail _ (.tail _ (.tail _ (.tail _ (.tail _ (.tail _ (.tail _ (.tail _ (.head _)))))))))))) (hv : cs[o]? = some v := by exact rfl) : Qt c ρ B Φ Ψ (.load t x) ty v :=
  q_load_mem1 (ba := some ⟨b, 0, none⟩) ht (by rw [hx, pAt, Option.map_some, addr_add, Nat.zero_add]) hm hv
theorem q_load_mem {o s : Nat} {vs : List Value} (ht : tSz c.P t = some (true, s)) (hx : ev ρ x = some (pAt ba o)) (hm : Res.mem ba cs ∈ Φ) (hv : part' cs o s = vs) (hn : Nat.blt 0 s = true) (hl : vs.length = s) : Qt c ρ B Φ Ψ (.load t x) ty (.agg vs.toArray) := fun a w hs d ps af g => by
  obtain ⟨V, U, M, ms⟩ := hs.mem
  obtain ⟨ad, rfl, hc⟩ := mem_cells (ms.phi _ hm) hv hn hl
  simp [execOp, hs.ev hx, pAt, Instr.loadAt, Instr.sureAddr, run_loadVar_agg ht hl hc]
theorem q_load_fr {b o s : Nat} {vs : List Value} (ht : tSz c.P t = some (true, s) := by exact tz rfl) (hx : ev ρ x = some (.pointer (some ⟨b, o, none⟩)) := by exact rfl) (hm : Res.mem (some ⟨b, 0, none⟩) cs ∈ Φ := by first | exact .head _ | exact .tail _ (.head _) | exact .tail _ (.tail _ (.head _)) | exact .tail _ (.tail _ (.tail _ (.head _))) | exact .tail _ (.tail _ (.tail _ (.tail _ (.head _)))) | exact .tail _ (.tail _ (.tail _ (.tail _ (.tail _ (.head _))))) | exact .tail _ (.tail _ (.tail _ (.tail _ (.tail _ (.tail _ (.head _)))))) | exact .tail _ (.tail _ (.tail _ (.tail _ (.tail _ (.tail _ (.tail _ (.head _))))))) | exact .tail _ (.tail _ (.tail _ (.tail _ (.tail _ (.tail _ (.tail _ (.tail _ (.head _)))))))) | exact .tail _ (.tail _ (.tail _ (.tail _ (.tail _ (.tail _ (.tail _ (.tail _ (.tail _ (.head _))))))))) | exact .tail _ (.tail _ (.tail _ (.tail _ (.tail _ (.tail _ (.tail _ (.tail _ (.tail _ (.tail _ (.head _)))))))))) | exact .tail _ (.tail _ (.tail _ (.tail _ (.tail _ (.tail _ (.tail _ (.tail _ (.tail _ (.tail _ (.tail _ (.head _)))))))))))) (hv : part' cs o s = vs := by exact rfl) (hn : Nat.blt 0 s = true := by exact rfl) (hl : vs.length = s := by exact rfl) : Qt c ρ B Φ Ψ (.load t x) ty (.agg vs.toArray) :=
  q_load_mem (ba := some ⟨b, 0, none⟩) ht (by rw [hx, pAt, Option.map_some, addr_add, Nat.zero_add]) hm hv hn hl
theorem q_fieldAddr {b off f s : Nat} {ag : Bool} {i : Nat} (ht : tFd c.P t i = some (f, ag, s) := by exact tf rfl rfl) (hs0 : Nat.beq s 0 = false := by exact rfl) (hx : ev ρ x = some (.pointer (some ⟨b, off, none⟩)) := by exact rfl) : Qt c ρ B Φ Ψ (.fieldAddr t x i) ty (.pointer (some ⟨b, off + f, none⟩)) := fun a w hs d ps af g => by
  unfold tFd at ht
  split at ht
  · rename_i fs hu
    split at ht
    · rename_i fl hf
      split at ht
      · rename_i ag' s' hsz
        cases ht
        have hne : ¬ s = 0 := ne_of_beq hs0
        simp [execOp, hs.ev hx, Instr.fieldAt, run_underlying hu, hf, Instr.sureAddr, fieldPlace, run_sizeOf hsz, hne, addr_add]
      · cases ht
    · cases ht
  · cases ht
theorem q_fieldAddr_mem {o f s i : Nat} {ag : Bool} (ht : tFd c.P t i = some (f, ag, s)) (hs0 : Nat.beq s 0 = false) (hx : ev ρ x = some (pAt ba o)) (hm : Res.mem ba cs ∈ Φ) (hl : o < cs.length) : Qt c ρ B Φ Ψ (.fieldAddr t x i) ty (pAt ba (o + f)) := fun a w hs d ps af g => by
  obtain ⟨V, U, M, ms⟩ := hs.mem
  obtain ⟨ad, rfl, _, _⟩ := ms.phi _ hm o _ (List.getElem?_eq_getElem hl)
  unfold tFd at ht
  split at ht
  · rename_i fs hu
    split at ht
    · rename_i fl hf
      split at ht
      · rename_i ag' s' hsz
        cases ht
        have hne : ¬ s = 0 := ne_of_beq hs0
        simp [execOp, hs.ev hx, Instr.fieldAt, run_underlying hu, hf, Instr.sureAddr, fieldPlace, run_sizeOf hsz, hne, pAt, add_add]
      · cases ht
    · cases ht
  · cases ht
theorem q_idx {i n cap : Nat} (ht : tSl c.P t = some (e, sz, by')) (hx : ev ρ x = some (.slice ba n cap)) (hy : ev ρ y = some (.int kk m)) (h0 : 0 ≤ m) (h1 : m < n) (hm : Res.mem ba cs ∈ Φ) (hl : n * sz ≤ cs.length) (hz : Nat.beq sz 0 = false) (hi : m.toNat = i) : Qt c ρ B Φ Ψ (.indexAddr t x y) ty (pAt ba (i * sz)) := fun a w hs d ps af g => by
  obtain ⟨hu, ii, hii, hsz, _⟩ := tSl_inv ht
  obtain ⟨V, U, M, ms⟩ := hs.mem
  have hsz0 : ¬ sz = 0 := ne_of_beq hz
  have hlt : 0 < cs.length := by
    have : 1 * 1 ≤ n * sz := Nat.mul_le_mul (by omega) (by omega)
    omega
  obtain ⟨ad, rfl, _, _⟩ := ms.phi _ hm 0 _ (List.getElem?_eq_getElem hlt)
  subst hi
  simp [execOp, hs.ev hx, hs.ev hy, Instr.indexAt, asIntOf, run_underlying hu, h0, h1, sizeOf, typeInfo, hii, hsz, pAt]
theorem q_idx_arr {b off len i : Nat} (ht : tAr c.P t = some (len, e, sz) := by exact ta rfl) (hx : ev ρ x = some (.pointer (some ⟨b, off, none⟩)) := by exact rfl) (hy : ev ρ y = some (.int kk m) := by exact rfl) (h0 : 0 ≤ m := by omega) (h1 : m < len := by omega) (hi : m.toNat = i := by first | exact Int.toNat_natCast _ | exact rfl) : Qt c ρ B Φ Ψ (.indexAddr t x y) ty (.pointer (some ⟨b, off + i * sz, none⟩)) := fun a w hs d ps af g => by
  obtain ⟨hu, ii, hii, hsz⟩ := tAr_inv ht
  subst hi
  simp [execOp, hs.ev hx, hs.ev hy, Instr.indexAt, Instr.sureAddr, asIntOf, run_underlying hu, h0, h1, sizeOf, typeInfo, hii, hsz, addr_add]

/-- A cut: the value alone; the fact is laid ahead, by f_cutB. -/
def cutB (s : BS) (l h : Nat) : BS := ⟨cutBase s.ba l s.cap 1, s.cap - l, (s.xs.drop l).take (h - l)⟩
theorem cutB_ok {s : BS} {l h : Nat} (hok : s.ok) (hhn : h ≤ s.xs.length) : (cutB s l h).ok := by
  have hl : ((s.xs.drop l).take (h - l)).length = h - l := by simp; omega
  exact ⟨by have := hok.1; show ((s.xs.drop l).take (h - l)).length ≤ s.cap - l; omega, by have := hok.2; show s.cap - l ≤ maxLen; omega⟩
theorem cutB_res {s : BS} {l h : Nat} {V : Av} {w : World} (hm : s.res.p V w) (hok : s.ok) (hlh : l ≤ h) (hhn : h ≤ s.xs.length) : (cutB s l h).res.p V w := by
  have h1 := mem_cut (sz := 1) (m := s.cap) hm hlh (Nat.le_trans hhn hok.1)
  rw [bv_cut, Nat.mul_one, Nat.mul_one] at h1
  exact h1
theorem q_cutB {s : BS} {lo hi : Option Operand} {l h : Nat} (ht : tSl c.P t = some (e, 1, by')) (hx : ev ρ x = some s.v) (hok : s.ok)
    (hlo : match lo with | none => l = 0 | some o => ∃ k, ev ρ o = some (.int k l)) (hhi : match hi with | none => h = s.xs.length | some o => ∃ k, ev ρ o = some (.int k h)) (hlh : l ≤ h) (hhn : h ≤ s.xs.length) : Qt c ρ B Φ Ψ (.slice t x lo hi none) ty (cutB s l h).v := fun a w hs d ps af g => by
    have hl : ((s.xs.drop l).take (h - l)).length = h - l := by simp; omega
    have hv : (cutB s l h).v = .slice (cutBase s.ba l s.cap 1) (h - l) (s.cap - l) := by unfold cutB BS.v; simp only [hl]
    rw [hv]
    obtain ⟨hu, ii, hii, hsz, _⟩ := tSl_inv ht
    have hcap : h ≤ s.cap := Nat.le_trans hhn hok.1
    cases lo with
    | none =>
      simp only at hlo
      subst hlo
      cases hi with
      | none =>
        simp only at hhi
        subst hhi
        simp [execOp, hs.ev hx, BS.v, Instr.sliceAt, Instr.slice, run_underlying hu, Instr.sliceBounds, sizeOf, typeInfo, hii, cutBase]
      | some o2 =>
        obtain ⟨k2, h2⟩ := hhi
        simp [execOp, hs.ev hx, BS.v, hs.ev h2, Instr.sliceAt, Instr.slice, run_underlying hu, Instr.sliceBounds, Instr.sliceBound, asIntOf, sizeOf, typeInfo, hii, cutBase, hcap]
    | some o1 =>
      obtain ⟨k1, h1'⟩ := hlo
      cases hi with
      | none =>
        simp only at hhi
        subst hhi
        simp [execOp, hs.ev hx, BS.v, hs.ev h1', Instr.sliceAt, Instr.slice, run_underlying hu, Instr.sliceBounds, Instr.sliceBound, asIntOf, sizeOf, typeInfo, hii, hsz, cutBase, hlh]
      | some o2 =>
        obtain ⟨k2, h2⟩ := hhi
        simp [execOp, hs.ev hx, BS.v, hs.ev h1', hs.ev h2, Instr.sliceAt, Instr.slice, run_underlying hu, Instr.sliceBounds, Instr.sliceBound, asIntOf, sizeOf, typeInfo, hii, hsz, cutBase, hlh, hcap]
theorem q_cut_arr {lo hi : Option Operand} {b l h len : Nat} (ht : tAr c.P t = some (len, e, sz)) (hx : ev ρ x = some (.pointer (some ⟨b, 0, none⟩)))
    (hlo : match lo with | none => l = 0 | some o => ∃ k, ev ρ o = some (.int k l)) (hhi : match hi with | none => h = len | some o => ∃ k, ev ρ o = some (.int k h)) (hlh : l ≤ h) (hhn : h ≤ len) (hll : l < len) : Qt c ρ B Φ Ψ (.slice t x lo hi none) ty (.slice (some ⟨b, l * sz, none⟩) (h - l) (len - l)) := fun a w hs d ps af g => by
    obtain ⟨hu, ii, hii, hsz⟩ := tAr_inv ht
    have hne : ¬ len = l := by omega
    have hne0 : ¬ len = 0 := by omega
    cases lo with
    | none =>
      simp only at hlo
      subst hlo
      cases hi with
      | none =>
        simp only at hhi
        subst hhi
        simp [execOp, hs.ev hx, Instr.sliceAt, Instr.sureAddr, run_underlying hu, Instr.sliceBounds, sizeOf, typeInfo, hii, addr_add]
      | some o2 =>
        obtain ⟨k2, h2⟩ := hhi
        simp [execOp, hs.ev hx, hs.ev h2, Instr.sliceAt, Instr.sureAddr, run_underlying hu, Instr.sliceBounds, Instr.sliceBound, asIntOf, sizeOf, typeInfo, hii, addr_add, hhn]
    | some o1 =>
      obtain ⟨k1, h1'⟩ := hlo
      cases hi with
      | none =>
        simp only at hhi
        subst hhi
        simp [execOp, hs.ev hx, hs.ev h1', Instr.sliceAt, Instr.sureAddr, run_underlying hu, Instr.sliceBounds, Instr.sliceBound, asIntOf, sizeOf, typeInfo, hii, hsz, addr_add, hne, hlh]
      | some o2 =>
        obtain ⟨k2, h2⟩ := hhi
        simp [execOp, hs.ev hx, hs.ev h1', hs.ev h2, Instr.sliceAt, Instr.sureAddr, run_underlying hu, Instr.sliceBounds, Instr.sliceBound, asIntOf, sizeOf, typeInfo, hii, hsz, addr_add, hne, hlh, hhn]
end
section
variable {c : Ctx} {ρ : List (Nat × Value)} {B : List Own} {Φ : List Res} {Ψ : List JR} {Q : Post} {ops : Array Oper} {todo : List Nat} {I : List Nat → World → Prop}
/-- A fact laid into a state of such a region. -/
theorem ra_have {φ : Res} (h : ∀ V w, (∀ ψ ∈ Φ, ψ.p V w) → φ.p V w) (k : RA c I ρ B (φ :: Φ) Ψ ops todo Q) : RA c I ρ B Φ Ψ ops todo Q := fun a w hs => by
  obtain ⟨V, U, M, m⟩ := hs.mem
  exact k a w ⟨hs.nt, hs.reg, hs.dfr, V, U, M, { m with phi := List.forall_mem_cons.2 ⟨h V w m.phi, m.phi⟩ }⟩
theorem w_have {φ : Res} {code : Code} (h : ∀ V w, (∀ ψ ∈ Φ, ψ.p V w) → φ.p V w) (k : SW c ρ B (φ :: Φ) Ψ code Q) : SW c ρ B Φ Ψ code Q := sl_to_sw (fun h' => f_have h h') k
/-- A slot's bool is parted. -/
theorem ra_part {t : Nat} {b : Bool} (hx : lk ρ t = some (.bool b)) (h1 : b = true → RA c I ((t, .bool true) :: ρ) B Φ Ψ ops todo Q) (h2 : b = false → RA c I ((t, .bool false) :: ρ) B Φ Ψ ops todo Q) : RA c I ρ B Φ Ψ ops todo Q := by
  cases b
  · exact fun a w hs => h2 rfl a w ⟨hs.nt, fun s u hu => by
      rw [lk_cons] at hu
      split at hu
      · rename_i e; subst e; cases hu; exact hs.reg _ _ hx
      · exact hs.reg s u hu, hs.dfr, hs.mem⟩
  · exact fun a w hs => h1 rfl a w ⟨hs.nt, fun s u hu => by
      rw [lk_cons] at hu
      split at hu
      · rename_i e; subst e; cases hu; exact hs.reg _ _ hx
      · exact hs.reg s u hu, hs.dfr, hs.mem⟩
end
end Go.Proofs.YtjahiohlekdhoaaDoor
