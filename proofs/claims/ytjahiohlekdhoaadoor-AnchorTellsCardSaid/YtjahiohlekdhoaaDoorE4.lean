/-
  The engine, part 4: slices: lengths, elements, cuts, what is made, appended, copied; closures.
-/
import Derived.Test.YtjahiohlekdhoaaDoorE3
namespace Go.Proofs.YtjahiohlekdhoaaDoor
open Go

theorem tSl_inv {P : Program} {t e s b : Nat} (h : tSl P t = some (e, s, b)) : P.underlying t = some (.slice e) ∧ ∃ i, P.info? e = some i ∧ i.size = s ∧ i.bytes = b := by
  unfold tSl at h
  split at h
  · rename_i e' hu
    split at h
    · rename_i i hi
      cases h
      exact ⟨hu, i, hi, rfl, rfl⟩
    · cases h
  · cases h
theorem tAr_inv {P : Program} {t n e s : Nat} (h : tAr P t = some (n, e, s)) : P.underlying t = some (.array n e) ∧ ∃ i, P.info? e = some i ∧ i.size = s := by
  unfold tAr at h
  split at h
  · rename_i n' e' hu
    split at h
    · rename_i i hi
      cases h
      exact ⟨hu, i, hi, rfl⟩
    · cases h
  · cases h

def pAt (ba : Option Addr) (k : Nat) : Value := .pointer (ba.map (·.add k))

/-- A list's part, of a length, from a place on. -/
def part' (cs : List Value) (o n : Nat) : List Value := (cs.drop o).take n
theorem part'_get {cs : List Value} {o n j : Nat} {v : Value} (h : (part' cs o n)[j]? = some v) : j < n ∧ cs[o + j]? = some v := by
  unfold part' at h
  rw [List.getElem?_take] at h
  split at h
  · rename_i hl; exact ⟨hl, by simpa using h⟩
  · cases h

section
variable {c : Ctx} {ρ : List (Nat × Value)} {B B' Br : List Own} {Φ : List Res} {Ψ : List JR} {ops : Array Oper} {rest : List Oper} {Q : Post} {d ty t : Nat} {ps : String} {af : Array Edge} {x y z : Operand} {v u : Value}
  {ba : Option Addr} {n cap : Nat} {cs : List Value} {m : Int} {kk : IntKind} {e sz by' : Nat}

theorem mem_of {V U M : Av} {w : World} (m : MS c B Φ Ψ V U M w) {φ : Res} (h : φ ∈ Φ) : φ.p V w := m.phi φ h

/-! ### Lengths -/
theorem r_len {at' : Nat} (ht : tSl c.P at' = some (e, sz, by') := by exact tl rfl) (hx : ev ρ x = some (.slice ba n cap) := by exact rfl) (hb : Nat.blt d c.nt = true := by exact rfl) (k : SL c ((d, .int .i64 n) :: ρ) B Φ Ψ ops rest Q) :
    SL c ρ B Φ Ψ ops (⟨some d, .call ⟨.builtin .len, #[x], #[at']⟩, ty, ps, af, none⟩ :: rest) Q :=
  r_val rfl (fun _ => by simp) rfl hb (fun a w hs => by
    obtain ⟨hu, _⟩ := tSl_inv ht
    simp [execOp, resolve, invoke, builtin, hs.ev hx, Builtin.len_, run_underlying hu, goInt]) k
theorem r_cap {at' : Nat} (ht : tSl c.P at' = some (e, sz, by') := by exact tl rfl) (hx : ev ρ x = some (.slice ba n cap) := by exact rfl) (hb : Nat.blt d c.nt = true := by exact rfl) (k : SL c ((d, .int .i64 cap) :: ρ) B Φ Ψ ops rest Q) :
    SL c ρ B Φ Ψ ops (⟨some d, .call ⟨.builtin .cap, #[x], #[at']⟩, ty, ps, af, none⟩ :: rest) Q :=
  r_val rfl (fun _ => by simp) rfl hb (fun a w hs => by
    obtain ⟨hu, _⟩ := tSl_inv ht
    simp [execOp, resolve, invoke, builtin, hs.ev hx, Builtin.cap_, run_underlying hu, goInt]) k

/-! ### Elements -/
theorem r_idx {i : Nat} (ht : tSl c.P t = some (e, sz, by') := by exact tl rfl) (hx : ev ρ x = some (.slice ba n cap) := by exact rfl) (hy : ev ρ y = some (.int kk m) := by exact rfl) (h0 : 0 ≤ m := by omega) (h1 : m < n := by omega) (hm : Res.mem ba cs ∈ Φ := by first | exact .head _ | exact .tail _ (.head _) | exact .tail _ (.tail _ (.head _)) | exact .tail _ (.tail _ (.tail _ (.head _))) | exact .tail _ (.tail _ (.tail _ (.tail _ (.head _)))) | exact .tail _ (.tail _ (.tail _ (.tail _ (.tail _ (.head _))))) | exact .tail _ (.tail _ (.tail _ (.tail _ (.tail _ (.tail _ (.head _)))))) | exact .tail _ (.tail _ (.tail _ (.tail _ (.tail _ (.tail _ (.tail _ (.head _))))))) | exact .tail _ (.tail _ (.tail _ (.tail _ (.tail _ (.tail _ (.tail _ (.tail _ (.head _)))))))) | exact .tail _ (.tail _ (.tail _ (.tail _ (.tail _ (.tail _ (.tail _ (.tail _ (.tail _ (.head _))))))))) | exact .tail _ (.tail _ (.tail _ (.tail _ (.tail _ (.tail _ (.tail _ (.tail _ (.tail _ (.tail _ (.head _)))))))))) | exact .tail _ (.tail _ (.tail _ (.tail _ (.tail _ (.tail _ (.tail _ (.tail _ (.tail _ (.tail _ (.tail _ (.head _)))))))))))) (hl : n * sz ≤ cs.length := by first | (simp [bv]; done) | (simp [bv]; omega)) (hz : Nat.beq sz 0 = false := by exact rfl) (hi : m.toNat = i := by first | exact Int.toNat_natCast _ | exact rfl)
    (hb : Nat.blt d c.nt = true := by exact rfl) (k : SL c ((d, pAt ba (i * sz)) :: ρ) B Φ Ψ ops rest Q) : SL c ρ B Φ Ψ ops (⟨some d, .indexAddr t x y, ty, ps, af, none⟩ :: rest) Q :=
  r_val rfl (fun _ => by simp) rfl hb (fun a w hs => by
    obtain ⟨hu, ii, hii, hsz, _⟩ := tSl_inv ht
    obtain ⟨V, U, M, ms⟩ := hs.mem
    have hsz0 : ¬ sz = 0 := ne_of_beq hz
    have hlt : 0 < cs.length := by
      have : 1 * 1 ≤ n * sz := Nat.mul_le_mul (by omega) (by omega)
      omega
    obtain ⟨ad, rfl, _, _⟩ := ms.phi _ hm 0 _ (List.getElem?_eq_getElem hlt)
    subst hi
    simp [execOp, hs.ev hx, hs.ev hy, Instr.indexAt, asIntOf, run_underlying hu, h0, h1, sizeOf, typeInfo, hii, hsz, pAt]) k

/-- An element of an array of one's own: its address. -/
theorem r_idx_arr {b off len i : Nat} (ht : tAr c.P t = some (len, e, sz) := by exact ta rfl) (hx : ev ρ x = some (.pointer (some ⟨b, off, none⟩)) := by exact rfl) (hy : ev ρ y = some (.int kk m) := by exact rfl) (h0 : 0 ≤ m := by omega) (h1 : m < len := by omega) (hi : m.toNat = i := by first | exact Int.toNat_natCast _ | exact rfl)
    (hb : Nat.blt d c.nt = true := by exact rfl) (k : SL c ((d, .pointer (some ⟨b, off + i * sz, none⟩)) :: ρ) B Φ Ψ ops rest Q) : SL c ρ B Φ Ψ ops (⟨some d, .indexAddr t x y, ty, ps, af, none⟩ :: rest) Q :=
  r_val rfl (fun _ => by simp) rfl hb (fun a w hs => by
    obtain ⟨hu, ii, hii, hsz⟩ := tAr_inv ht
    subst hi
    simp [execOp, hs.ev hx, hs.ev hy, Instr.indexAt, Instr.sureAddr, asIntOf, run_underlying hu, h0, h1, sizeOf, typeInfo, hii, hsz, addr_add]) k

theorem mem_cells {V : Av} {w : World} {o n : Nat} {vs : List Value} (h : (Res.mem ba cs).p V w) (hv : part' cs o n = vs) (hn : Nat.blt 0 n = true) (hl : vs.length = n) :
    ∃ a, ba = some a ∧ ∀ j v, vs[j]? = some v → w.cell? ((a.add o).add j) = some v := by
  have hn' : 0 < n := by simpa [Nat.blt_eq] using hn
  have h0 : 0 < vs.length := by omega
  obtain ⟨h1, h2⟩ := part'_get (v := vs[0]) (j := 0) (by rw [hv]; exact List.getElem?_eq_getElem h0)
  obtain ⟨a, ha, _, _⟩ := h _ _ h2
  refine ⟨a, ha, fun j v hj => ?_⟩
  obtain ⟨h3, h4⟩ := part'_get (v := v) (j := j) (by rw [hv]; exact hj)
  obtain ⟨a', ha', _, hc⟩ := h _ _ h4
  rw [ha] at ha'; cases ha'
  rw [add_add]; exact hc

theorem r_load_mem {o s : Nat} {vs : List Value} (ht : tSz c.P t = some (true, s) := by exact tz rfl) (hx : ev ρ x = some (pAt ba o) := by exact rfl) (hm : Res.mem ba cs ∈ Φ := by first | exact .head _ | exact .tail _ (.head _) | exact .tail _ (.tail _ (.head _)) | exact .tail _ (.tail _ (.tail _ (.head _))) | exact .tail _ (.tail _ (.tail _ (.tail _ (.head _)))) | exact .tail _ (.tail _ (.tail _ (.tail _ (.tail _ (.head _))))) | exact .tail _ (.tail _ (.tail _ (.tail _ (.tail _ (.tail _ (.head _)))))) | exact .tail _ (.tail _ (.tail _ (.tail _ (.tail _ (.tail _ (.tail _ (.head _))))))) | exact .tail _ (.tail _ (.tail _ (.tail _ (.tail _ (.tail _ (.tail _ (.tail _ (.head _)))))))) | exact .tail _ (.tail _ (.tail _ (.tail _ (.tail _ (.tail _ (.tail _ (.tail _ (.tail _ (.head _))))))))) | exact .tail _ (.tail _ (.tail _ (.tail _ (.tail _ (.tail _ (.tail _ (.tail _ (.tail _ (.tail _ (.head _)))))))))) | exact .tail _ (.tail _ (.tail _ (.tail _ (.tail _ (.tail _ (.tail _ (.tail _ (.tail _ (.tail _ (.tail _ (.head _)))))))))))) (hv : part' cs o s = vs := by exact rfl) (hn : Nat.blt 0 s = true := by exact rfl) (hl : vs.length = s := by exact rfl)
    (hb : Nat.blt d c.nt = true := by exact rfl) (k : SL c ((d, .agg vs.toArray) :: ρ) B Φ Ψ ops rest Q) : SL c ρ B Φ Ψ ops (⟨some d, .load t x, ty, ps, af, none⟩ :: rest) Q :=
  r_val rfl (fun _ => by simp) rfl hb (fun a w hs => by
    obtain ⟨V, U, M, ms⟩ := hs.mem
    obtain ⟨ad, rfl, hc⟩ := mem_cells (ms.phi _ hm) hv hn hl
    simp [execOp, hs.ev hx, pAt, Instr.loadAt, Instr.sureAddr, run_loadVar_agg ht hl hc]) k
theorem r_load_mem1 {o s : Nat} (ht : tSz c.P t = some (false, s) := by exact tz rfl) (hx : ev ρ x = some (pAt ba o) := by exact rfl) (hm : Res.mem ba cs ∈ Φ := by first | exact .head _ | exact .tail _ (.head _) | exact .tail _ (.tail _ (.head _)) | exact .tail _ (.tail _ (.tail _ (.head _))) | exact .tail _ (.tail _ (.tail _ (.tail _ (.head _)))) | exact .tail _ (.tail _ (.tail _ (.tail _ (.tail _ (.head _))))) | exact .tail _ (.tail _ (.tail _ (.tail _ (.tail _ (.tail _ (.head _)))))) | exact .tail _ (.tail _ (.tail _ (.tail _ (.tail _ (.tail _ (.tail _ (.head _))))))) | exact .tail _ (.tail _ (.tail _ (.tail _ (.tail _ (.tail _ (.tail _ (.tail _ (.head _)))))))) | exact .tail _ (.tail _ (.tail _ (.tail _ (.tail _ (.tail _ (.tail _ (.tail _ (.tail _ (.head _))))))))) | exact .tail _ (.tail _ (.tail _ (.tail _ (.tail _ (.tail _ (.tail _ (.tail _ (.tail _ (.tail _ (.head _)))))))))) | exact .tail _ (.tail _ (.tail _ (.tail _ (.tail _ (.tail _ (.tail _ (.tail _ (.tail _ (.tail _ (.tail _ (.head _)))))))))))) (hv : cs[o]? = some v := by exact rfl)
    (hb : Nat.blt d c.nt = true := by exact rfl) (k : SL c ((d, v) :: ρ) B Φ Ψ ops rest Q) : SL c ρ B Φ Ψ ops (⟨some d, .load t x, ty, ps, af, none⟩ :: rest) Q :=
  r_val rfl (fun _ => by simp) rfl hb (fun a w hs => by
    obtain ⟨V, U, M, ms⟩ := hs.mem
    obtain ⟨ad, rfl, _, hc⟩ := ms.phi _ hm _ _ hv
    simp [execOp, hs.ev hx, pAt, Instr.loadAt, Instr.sureAddr, run_loadVar_one ht hc]) k
/-- The same of a variable that changes no more. -/
theorem r_load_fr {b o s : Nat} {vs : List Value} (ht : tSz c.P t = some (true, s) := by exact tz rfl) (hx : ev ρ x = some (.pointer (some ⟨b, o, none⟩)) := by exact rfl) (hm : Res.mem (some ⟨b, 0, none⟩) cs ∈ Φ := by first | exact .head _ | exact .tail _ (.head _) | exact .tail _ (.tail _ (.head _)) | exact .tail _ (.tail _ (.tail _ (.head _))) | exact .tail _ (.tail _ (.tail _ (.tail _ (.head _)))) | exact .tail _ (.tail _ (.tail _ (.tail _ (.tail _ (.head _))))) | exact .tail _ (.tail _ (.tail _ (.tail _ (.tail _ (.tail _ (.head _)))))) | exact .tail _ (.tail _ (.tail _ (.tail _ (.tail _ (.tail _ (.tail _ (.head _))))))) | exact .tail _ (.tail _ (.tail _ (.tail _ (.tail _ (.tail _ (.tail _ (.tail _ (.head _)))))))) | exact .tail _ (.tail _ (.tail _ (.tail _ (.tail _ (.tail _ (.tail _ (.tail _ (.tail _ (.head _))))))))) | exact .tail _ (.tail _ (.tail _ (.tail _ (.tail _ (.tail _ (.tail _ (.tail _ (.tail _ (.tail _ (.head _)))))))))) | exact .tail _ (.tail _ (.tail _ (.tail _ (.tail _ (.tail _ (.tail _ (.tail _ (.tail _ (.tail _ (.tail _ (.head _)))))))))))) (hv : part' cs o s = vs := by exact rfl) (hn : Nat.blt 0 s = true := by exact rfl) (hl : vs.length = s := by exact rfl)
    (hb : Nat.blt d c.nt = true := by exact rfl) (k : SL c ((d, .agg vs.toArray) :: ρ) B Φ Ψ ops rest Q) : SL c ρ B Φ Ψ ops (⟨some d, .load t x, ty, ps, af, none⟩ :: rest) Q :=
  r_load_mem (ba := some ⟨b, 0, none⟩) ht (by rw [hx, pAt, Option.map_some, addr_add, Nat.zero_add]) hm hv hn hl hb k
theorem r_load_fr1 {b o s : Nat} (ht : tSz c.P t = some (false, s) := by exact tz rfl) (hx : ev ρ x = some (.pointer (some ⟨b, o, none⟩)) := by exact rfl) (hm : Res.mem (some ⟨b, 0, none⟩) cs ∈ Φ := by first | exact .head _ | exact .tail _ (.head _) | exact .tail _ (.tail _ (.head _)) | exact .tail _ (.tail _ (.tail _ (.head _))) | exact .tail _ (.tail _ (.tail _ (.tail _ (.head _)))) | exact .tail _ (.tail _ (.tail _ (.tail _ (.tail _ (.head _))))) | exact .tail _ (.tail _ (.tail _ (.tail _ (.tail _ (.tail _ (.head _)))))) | exact .tail _ (.tail _ (.tail _ (.tail _ (.tail _ (.tail _ (.tail _ (.head _))))))) | exact .tail _ (.tail _ (.tail _ (.tail _ (.tail _ (.tail _ (.tail _ (.tail _ (.head _)))))))) | exact .tail _ (.tail _ (.tail _ (.tail _ (.tail _ (.tail _ (.tail _ (.tail _ (.tail _ (.head _))))))))) | exact .tail _ (.tail _ (.tail _ (.tail _ (.tail _ (.tail _ (.tail _ (.tail _ (.tail _ (.tail _ (.head _)))))))))) | exact .tail _ (.tail _ (.tail _ (.tail _ (.tail _ (.tail _ (.tail _ (.tail _ (.tail _ (.tail _ (.tail _ (.head _)))))))))))) (hv : cs[o]? = some v := by exact rfl)
    (hb : Nat.blt d c.nt = true := by exact rfl) (k : SL c ((d, v) :: ρ) B Φ Ψ ops rest Q) : SL c ρ B Φ Ψ ops (⟨some d, .load t x, ty, ps, af, none⟩ :: rest) Q :=
  r_load_mem1 (ba := some ⟨b, 0, none⟩) ht (by rw [hx, pAt, Option.map_some, addr_add, Nat.zero_add]) hm hv hb k
theorem r_fieldAddr_mem {o f s i : Nat} {ag : Bool} (ht : tFd c.P t i = some (f, ag, s)) (hs0 : Nat.beq s 0 = false) (hx : ev ρ x = some (pAt ba o)) (hm : Res.mem ba cs ∈ Φ) (hl : o < cs.length) (hb : Nat.blt d c.nt = true)
    (k : SL c ((d, pAt ba (o + f)) :: ρ) B Φ Ψ ops rest Q) : SL c ρ B Φ Ψ ops (⟨some d, .fieldAddr t x i, ty, ps, af, none⟩ :: rest) Q :=
  r_val rfl (fun _ => by simp) rfl hb (fun a w hs => by
    obtain ⟨V, U, M, ms⟩ := hs.mem
    obtain ⟨ad, rfl, _, _⟩ := ms.phi _ hm o _ (List.getElem?_eq_getElem hl)
    unfold tFd at ht
    split at ht
    · rename_i fs hu
      split at ht
      · rename_i fl hf
        split at ht
        · rename_i ag' s' hsz
          cases ht
          have hne : ¬ s = 0 := ne_of_beq hs0
          simp [execOp, hs.ev hx, Instr.fieldAt, run_underlying hu, hf, Instr.sureAddr, fieldPlace, run_sizeOf hsz, hne, pAt, add_add]
        · cases ht
      · cases ht
    · cases ht) k

/-! ### Facts of the state taken apart, made -/
theorem f_ex {α : Type} {f : α → Res} (k : ∀ i, SL c ρ B (f i :: Φ) Ψ ops rest Q) : SL c ρ B (Res.ex f :: Φ) Ψ ops rest Q := fun a w hs => by
  obtain ⟨V, U, M, m⟩ := hs.mem
  obtain ⟨i, hi⟩ := m.phi _ (.head _)
  exact k i a w ⟨hs.nt, hs.reg, hs.dfr, V, U, M, { m with phi := List.forall_mem_cons.2 ⟨hi, fun φ h => m.phi φ (.tail _ h)⟩ }⟩
theorem f_and {p q : Res} (k : SL c ρ B (p :: q :: Φ) Ψ ops rest Q) : SL c ρ B (Res.and p q :: Φ) Ψ ops rest Q := fun a w hs => by
  obtain ⟨V, U, M, m⟩ := hs.mem
  obtain ⟨h1, h2⟩ := m.phi _ (.head _)
  exact k a w ⟨hs.nt, hs.reg, hs.dfr, V, U, M, { m with phi := List.forall_mem_cons.2 ⟨h1, List.forall_mem_cons.2 ⟨h2, fun φ h => m.phi φ (.tail _ h)⟩⟩ }⟩
theorem f_pure {p : Prop} (k : p → SL c ρ B Φ Ψ ops rest Q) : SL c ρ B (Res.pure p :: Φ) Ψ ops rest Q := fun a w hs => by
  obtain ⟨V, U, M, m⟩ := hs.mem
  exact k (m.phi _ (.head _)) a w ⟨hs.nt, hs.reg, hs.dfr, V, U, M, { m with phi := fun φ hφ => m.phi φ (.tail _ hφ) }⟩
/-- A fact that the others entail. -/
theorem f_have {φ : Res} (h : ∀ V w, (∀ ψ ∈ Φ, ψ.p V w) → φ.p V w) (k : SL c ρ B (φ :: Φ) Ψ ops rest Q) : SL c ρ B Φ Ψ ops rest Q := fun a w hs => by
  obtain ⟨V, U, M, m⟩ := hs.mem
  exact k a w ⟨hs.nt, hs.reg, hs.dfr, V, U, M, { m with phi := List.forall_mem_cons.2 ⟨h V w m.phi, m.phi⟩ }⟩
/-- The facts, others in their place, that they entail. -/
theorem f_set (Φ' : List Res) (h : ∀ V w, (∀ ψ ∈ Φ, ψ.p V w) → ∀ φ ∈ Φ', φ.p V w) (k : SL c ρ B Φ' Ψ ops rest Q) : SL c ρ B Φ Ψ ops rest Q := fun a w hs => by
  obtain ⟨V, U, M, m⟩ := hs.mem
  exact k a w ⟨hs.nt, hs.reg, hs.dfr, V, U, M, { m with phi := fun ψ hψ => h V w m.phi ψ hψ }⟩
theorem f_g (k : SL c ρ B (c.G :: Φ) Ψ ops rest Q) : SL c ρ B Φ Ψ ops rest Q := fun a w hs => by
  obtain ⟨V, U, M, m⟩ := hs.mem
  exact k a w ⟨hs.nt, hs.reg, hs.dfr, V, U, M, { m with phi := List.forall_mem_cons.2 ⟨m.g, m.phi⟩ }⟩

/-! The same at code. -/
theorem sw_of_sl {code : Code} (h : ∀ {Q' : Post} (ops : Array Oper), (∀ a w, Q' .normal a w → code.wpIn (Fr c.r) 0 c.P Q a w) → SL c ρ B Φ Ψ ops [] Q') : SW c ρ B Φ Ψ code Q :=
  fun a w hs => h (Q' := fun _ a w => code.wpIn (Fr c.r) 0 c.P Q a w) #[] (fun _ _ h => h) a w hs
theorem sl_to_sw {code : Code} {ρ' : List (Nat × Value)} {B' : List Own} {Φ' : List Res} (h : ∀ {Q' : Post}, SL c ρ' B' Φ' Ψ #[] [] Q' → SL c ρ B Φ Ψ #[] [] Q') (k : SW c ρ' B' Φ' Ψ code Q) : SW c ρ B Φ Ψ code Q :=
  fun a w hs => h (Q' := fun _ a w => code.wpIn (Fr c.r) 0 c.P Q a w) (fun a w hs => k a w hs) a w hs
theorem w_ex {α : Type} {f : α → Res} {code : Code} (k : ∀ i, SW c ρ B (f i :: Φ) Ψ code Q) : SW c ρ B (Res.ex f :: Φ) Ψ code Q :=
  fun a w hs => f_ex (ops := #[]) (rest := []) (Q := fun _ a w => code.wpIn (Fr c.r) 0 c.P Q a w) (fun i a w hs => k i a w hs) a w hs
theorem w_and {p q : Res} {code : Code} (k : SW c ρ B (p :: q :: Φ) Ψ code Q) : SW c ρ B (Res.and p q :: Φ) Ψ code Q := sl_to_sw (fun h => f_and h) k
theorem w_pure {p : Prop} {code : Code} (k : p → SW c ρ B Φ Ψ code Q) : SW c ρ B (Res.pure p :: Φ) Ψ code Q :=
  fun a w hs => f_pure (ops := #[]) (rest := []) (Q := fun _ a w => code.wpIn (Fr c.r) 0 c.P Q a w) (fun i a w hs => k i a w hs) a w hs
theorem w_set (Φ' : List Res) {code : Code} (h : ∀ V w, (∀ ψ ∈ Φ, ψ.p V w) → ∀ φ ∈ Φ', φ.p V w) (k : SW c ρ B Φ' Ψ code Q) : SW c ρ B Φ Ψ code Q := sl_to_sw (fun h' => f_set Φ' h h') k

/-! ### From an own block to a fact; rows out of nothing -/
theorem Sep.tail {o : Own} {r : List Own} {w : World} (h : Sep (o :: r) w) : Sep r w := ⟨fun q hq => h.holds q (.tail _ hq), (List.pairwise_cons.1 h.apart).2⟩

theorem MS.drop {V U M : Av} {w : World} {o : Own} {φ : Res} (m : MS c (o :: B) Φ Ψ V U M w) (hφ : ∀ V', (∀ b, o.blk = some b → ¬ V' b) → φ.p V' w) : ∃ V' U', MS c B (φ :: Φ) Ψ V' U' M w := by
  have hd : ∀ b, blks B b → o.blk ≠ some b := fun b ⟨q, hq, e⟩ h => (List.pairwise_cons.1 m.sep.apart).1 q hq b h e
  refine ⟨fun b => V b ∧ o.blk ≠ some b, fun b => U b, ⟨fun b h => ⟨m.vx b h, fun h' => (m.own b ⟨o, .head _, h'⟩).2.1 h⟩, fun b h => ⟨m.vm b h, fun h' => (m.own b ⟨o, .head _, h'⟩).2.2 h⟩, fun b h => ⟨m.vb b ?_, hd b h⟩, fun b h => m.vlt b h.1, fun b h => m.ub b ?_, m.ult, m.sep.tail,
    fun b h => m.own b ?_, fun ψ hψ => ?_, m.psi, c.G.less m.g fun b h => h.1, m.sz, m.frame, m.xlt, m.mo, m.io⟩⟩
  · obtain ⟨q, hq, e⟩ := h; exact ⟨q, .tail _ hq, e⟩
  · obtain ⟨q, hq, e⟩ := h; exact ⟨q, .tail _ hq, e⟩
  · obtain ⟨q, hq, e⟩ := h; exact ⟨q, .tail _ hq, e⟩
  · cases hψ with
    | head => exact hφ _ fun b hb h => h.2 hb
    | tail _ h => exact ψ.less (m.phi ψ h) fun b h => h.1

/-- A variable of one's own that changes no more. -/
theorem o_freeze {b : Nat} {bt : TypeId} (k : SL c ρ B (Res.mem (some ⟨b, 0, none⟩) cs :: Φ) Ψ ops rest Q) : SL c ρ (.box b cs bt :: B) Φ Ψ ops rest Q := fun a w hs => by
  obtain ⟨V, U, M, m⟩ := hs.mem
  have hh := m.sep.holds _ (.head _)
  obtain ⟨V', U', m'⟩ := m.drop (φ := Res.mem (some ⟨b, 0, none⟩) cs) fun V' hV i v hv => ⟨_, rfl, hV b rfl, by rw [addr_add, box_cell hh, Nat.zero_add]; exact hv⟩
  exact k a w ⟨hs.nt, hs.reg, hs.dfr, V', U', M, m'⟩
/-- A row of one's own that changes no more: a slice. -/
theorem o_row {xs : List Value} (k : ∀ ba cap, v = .slice ba n cap → n ≤ cap → cap ≤ maxLen → xs.length = n * sz → SL c ρ B (Res.mem ba xs :: Φ) Ψ ops rest Q) : SL c ρ (.row v n xs e sz :: B) Φ Ψ ops rest Q := fun a w hs => by
  obtain ⟨V, U, M, m⟩ := hs.mem
  have hh : w.ownsRow 0 e sz v n xs := m.sep.holds _ (.head _)
  obtain ⟨hlen, hh2⟩ := hh
  rcases hh2 with ⟨rfl, rfl⟩ | ⟨g, cap, cur, rfl, _, hg, hnc, hcm, hcs, htake⟩
  · have hx : xs = [] := List.eq_nil_of_length_eq_zero (by simpa using hlen)
    subst hx
    obtain ⟨V', U', m'⟩ := m.drop (φ := Res.mem none []) fun V' hV i v hv => by simp at hv
    exact k none 0 rfl (Nat.le_refl _) (Nat.zero_le _) hlen a w ⟨hs.nt, hs.reg, hs.dfr, V', U', M, m'⟩
  · obtain ⟨V', U', m'⟩ := m.drop (φ := Res.mem (some ⟨g, 0, none⟩) xs) fun V' hV i v hv => ⟨_, rfl, hV g rfl, by
      rw [addr_add, Nat.zero_add, cell_of_row w g i cur e (0, 0) hg]
      rw [← htake, List.getElem?_take] at hv
      split at hv
      · simpa using hv
      · cases hv⟩
    exact k _ cap rfl hnc hcm hlen a w ⟨hs.nt, hs.reg, hs.dfr, V', U', M, m'⟩
theorem wo_freeze {b : Nat} {bt : TypeId} {code : Code} (k : SW c ρ B (Res.mem (some ⟨b, 0, none⟩) cs :: Φ) Ψ code Q) : SW c ρ (.box b cs bt :: B) Φ Ψ code Q := sl_to_sw (fun h => o_freeze h) k
theorem wo_row {xs : List Value} {code : Code} (k : ∀ ba cap, v = .slice ba n cap → n ≤ cap → cap ≤ maxLen → xs.length = n * sz → SW c ρ B (Res.mem ba xs :: Φ) Ψ code Q) : SW c ρ (.row v n xs e sz :: B) Φ Ψ code Q :=
  fun a w hs => o_row (ops := #[]) (rest := []) (Q := fun _ a w => code.wpIn (Fr c.r) 0 c.P Q a w) (fun ba cap h1 h2 h3 h4 a w hs => k ba cap h1 h2 h3 h4 a w hs) a w hs

/-- A nil slice is a row of one's own. -/
theorem o_nil (e sz : Nat) (k : SL c ρ (.row (.slice none 0 0) 0 [] e sz :: B) Φ Ψ ops rest Q) : SL c ρ B Φ Ψ ops rest Q := fun a w hs => by
  obtain ⟨V, U, M, m⟩ := hs.mem
  have hbl : ∀ b, blks (.row (.slice none 0 0) 0 [] e sz :: B) b ↔ blks B b := fun b => by simp [blks, Own.blk, Value.ownBlock]
  refine k a w ⟨hs.nt, hs.reg, hs.dfr, V, U, M, ⟨m.vx, m.vm, fun b h => m.vb b ((hbl b).1 h), m.vlt, fun b h => m.ub b ((hbl b).1 h), m.ult, ⟨fun q hq => ?_, .cons (fun q _ b h => by simp [Own.blk, Value.ownBlock] at h) m.sep.apart⟩, fun b h => m.own b ((hbl b).1 h), m.phi, m.psi, m.g, m.sz, m.frame, m.xlt, m.mo, m.io⟩⟩
  cases hq with
  | head => exact World.ownsRow_nil w 0 e sz
  | tail _ h => exact m.sep.holds q h
theorem wo_nil (e sz : Nat) {code : Code} (k : SW c ρ (.row (.slice none 0 0) 0 [] e sz :: B) Φ Ψ code Q) : SW c ρ B Φ Ψ code Q := sl_to_sw (fun h => o_nil e sz h) k

/-- Own blocks in another order. -/
theorem o_perm {B' : List Own} (hp : B'.Perm B) (k : SL c ρ B' Φ Ψ ops rest Q) (hm : marks B' = marks B) : SL c ρ B Φ Ψ ops rest Q := fun a w hs => by
  obtain ⟨V, U, M, m⟩ := hs.mem
  have hbl : ∀ b, blks B' b → blks B b := fun b ⟨q, hq, e⟩ => ⟨q, hp.subset hq, e⟩
  exact k a w ⟨hs.nt, hs.reg, hs.dfr.trans (dfs_of hm).symm, V, U, M, ⟨m.vx, m.vm, fun b h => m.vb b (hbl b h), m.vlt, fun b h => m.ub b (hbl b h), m.ult, ⟨fun q hq => m.sep.holds q (hp.subset hq), m.sep.apart.perm hp.symm (fun {x y} h b h1 h2 => h b h2 h1)⟩, fun b h => m.own b (hbl b h), m.phi, m.psi, m.g, m.sz, m.frame, m.xlt, m.mo, m.io⟩⟩
/-- An own block forgotten (it changes no more, nor is it read). -/
theorem o_drop {o : Own} (hm : marks [o] = []) (k : SL c ρ B Φ Ψ ops rest Q) : SL c ρ (o :: B) Φ Ψ ops rest Q := fun a w hs => by
  obtain ⟨V, U, M, m⟩ := hs.mem
  have hbl : ∀ b, blks B b → blks (o :: B) b := fun b ⟨q, hq, e⟩ => ⟨q, .tail _ hq, e⟩
  exact k a w ⟨hs.nt, hs.reg, hs.dfr.trans (dfs_of (by rw [marks_cons, hm]; rfl)), V, U, M, ⟨m.vx, m.vm, fun b h => m.vb b (hbl b h), m.vlt, fun b h => m.ub b (hbl b h), m.ult, m.sep.tail, fun b h => m.own b (hbl b h), m.phi, m.psi, m.g, m.sz, m.frame, m.xlt, m.mo, m.io⟩⟩

/-! ### Cuts -/
def cutBase (ba : Option Addr) (l m sz : Nat) : Option Addr := if m = l then ba else ba.map (·.add (l * sz))

theorem mem_cut {V : Av} {w : World} {l h m : Nat} (hm : (Res.mem ba cs).p V w) (hlh : l ≤ h) (hhm : h ≤ m) : (Res.mem (cutBase ba l m sz) (part' cs (l * sz) ((h - l) * sz))).p V w := by
  intro i v hv
  obtain ⟨h1, h2⟩ := part'_get hv
  obtain ⟨a, rfl, hn, hc⟩ := hm _ _ h2
  unfold cutBase
  split
  · rename_i e
    have : h - l = 0 := by omega
    rw [this, Nat.zero_mul] at h1
    omega
  · exact ⟨a.add (l * sz), rfl, by rw [add_block]; exact hn, by rw [add_add]; exact hc⟩

/-- 'x[lo:hi]', 'x[lo:]', 'x[:hi]', 'x[:]' of a slice. -/
theorem r_cut {lo hi : Option Operand} {l h : Nat} (ht : tSl c.P t = some (e, sz, by')) (hx : ev ρ x = some (.slice ba n cap)) (hm : Res.mem ba cs ∈ Φ)
    (hlo : match lo with | none => l = 0 | some o => ∃ k, ev ρ o = some (.int k l)) (hhi : match hi with | none => h = n | some o => ∃ k, ev ρ o = some (.int k h)) (hlh : l ≤ h) (hhn : h ≤ n) (hnc : n ≤ cap)
    (hb : Nat.blt d c.nt = true) (k : SL c ((d, .slice (cutBase ba l cap sz) (h - l) (cap - l)) :: ρ) B (Res.mem (cutBase ba l cap sz) (part' cs (l * sz) ((h - l) * sz)) :: Φ) Ψ ops rest Q) :
    SL c ρ B Φ Ψ ops (⟨some d, .slice t x lo hi none, ty, ps, af, none⟩ :: rest) Q :=
  f_have (fun V w hΦ => mem_cut (sz := sz) (hΦ _ hm) hlh (Nat.le_trans hhn hnc)) <| r_val rfl (fun _ => by simp) rfl hb (fun a w hs => by
    obtain ⟨hu, ii, hii, hsz, _⟩ := tSl_inv ht
    have h1 : ∀ l' h' : Nat, l' ≤ h' → h' ≤ cap → ((h' : Int) ≤ cap) := fun _ _ _ h => by omega
    cases lo with
    | none =>
      simp only at hlo
      subst hlo
      cases hi with
      | none =>
        simp only at hhi
        subst hhi
        simp [execOp, hs.ev hx, Instr.sliceAt, Instr.slice, run_underlying hu, Instr.sliceBounds, sizeOf, typeInfo, hii, cutBase]
      | some o2 =>
        obtain ⟨k2, h2⟩ := hhi
        have : h ≤ cap := Nat.le_trans hhn hnc
        simp [execOp, hs.ev hx, hs.ev h2, Instr.sliceAt, Instr.slice, run_underlying hu, Instr.sliceBounds, Instr.sliceBound, asIntOf, sizeOf, typeInfo, hii, cutBase, this]
    | some o1 =>
      obtain ⟨k1, h1'⟩ := hlo
      cases hi with
      | none =>
        simp only at hhi
        subst hhi
        simp [execOp, hs.ev hx, hs.ev h1', Instr.sliceAt, Instr.slice, run_underlying hu, Instr.sliceBounds, Instr.sliceBound, asIntOf, sizeOf, typeInfo, hii, hsz, cutBase, hlh]
      | some o2 =>
        obtain ⟨k2, h2⟩ := hhi
        have : h ≤ cap := Nat.le_trans hhn hnc
        simp [execOp, hs.ev hx, hs.ev h1', hs.ev h2, Instr.sliceAt, Instr.slice, run_underlying hu, Instr.sliceBounds, Instr.sliceBound, asIntOf, sizeOf, typeInfo, hii, hsz, cutBase, hlh, this]) k

/-- 'p[lo:hi]' of an array variable. -/
theorem r_cut_arr {lo hi : Option Operand} {b l h len : Nat} (ht : tAr c.P t = some (len, e, sz)) (hx : ev ρ x = some (.pointer (some ⟨b, 0, none⟩)))
    (hlo : match lo with | none => l = 0 | some o => ∃ k, ev ρ o = some (.int k l)) (hhi : match hi with | none => h = len | some o => ∃ k, ev ρ o = some (.int k h)) (hlh : l ≤ h) (hhn : h ≤ len) (hll : l < len)
    (hb : Nat.blt d c.nt = true) (k : SL c ((d, .slice (some ⟨b, l * sz, none⟩) (h - l) (len - l)) :: ρ) B Φ Ψ ops rest Q) :
    SL c ρ B Φ Ψ ops (⟨some d, .slice t x lo hi none, ty, ps, af, none⟩ :: rest) Q :=
  r_val rfl (fun _ => by simp) rfl hb (fun a w hs => by
    obtain ⟨hu, ii, hii, hsz⟩ := tAr_inv ht
    have hne : ¬ len = l := by omega
    have hne0 : ¬ len = 0 := by omega
    cases lo with
    | none =>
      simp only at hlo
      subst hlo
      cases hi with
      | none =>
        simp only at hhi
        subst hhi
        simp [execOp, hs.ev hx, Instr.sliceAt, Instr.sureAddr, run_underlying hu, Instr.sliceBounds, sizeOf, typeInfo, hii, addr_add]
      | some o2 =>
        obtain ⟨k2, h2⟩ := hhi
        simp [execOp, hs.ev hx, hs.ev h2, Instr.sliceAt, Instr.sureAddr, run_underlying hu, Instr.sliceBounds, Instr.sliceBound, asIntOf, sizeOf, typeInfo, hii, addr_add, hhn]
    | some o1 =>
      obtain ⟨k1, h1'⟩ := hlo
      cases hi with
      | none =>
        simp only at hhi
        subst hhi
        simp [execOp, hs.ev hx, hs.ev h1', Instr.sliceAt, Instr.sureAddr, run_underlying hu, Instr.sliceBounds, Instr.sliceBound, asIntOf, sizeOf, typeInfo, hii, hsz, addr_add, hne, hlh]
      | some o2 =>
        obtain ⟨k2, h2⟩ := hhi
        simp [execOp, hs.ev hx, hs.ev h1', hs.ev h2, Instr.sliceAt, Instr.sureAddr, run_underlying hu, Instr.sliceBounds, Instr.sliceBound, asIntOf, sizeOf, typeInfo, hii, hsz, addr_add, hne, hlh, hhn]) k
/-- A frozen array's cut is a slice that is told. -/
theorem f_cut_fr {b : Nat} (l h : Nat) (hm : Res.mem (some ⟨b, 0, none⟩) cs ∈ Φ) (k : SL c ρ B (Res.mem (some ⟨b, l, none⟩) (part' cs l h) :: Φ) Ψ ops rest Q) : SL c ρ B Φ Ψ ops rest Q :=
  f_have (fun V w hΦ i v hv => by
    obtain ⟨h1, h2⟩ := part'_get hv
    obtain ⟨a, ha, hn, hc⟩ := hΦ _ hm _ _ h2
    cases ha
    exact ⟨_, rfl, hn, by rw [addr_add] at hc ⊢; rw [← hc]; congr 2; omega⟩) k

end
end Go.Proofs.YtjahiohlekdhoaaDoor
