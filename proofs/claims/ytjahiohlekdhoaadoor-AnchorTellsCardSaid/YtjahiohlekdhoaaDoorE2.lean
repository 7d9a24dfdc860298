/-
  The engine, part 2: the rules for operations: moves, arithmetic, own variables in memory.
-/
import Derived.Test.YtjahiohlekdhoaaDoorE1
import Derived.Lib.ConvBytes
namespace Go.Proofs.YtjahiohlekdhoaaDoor
open Go

/-! ### Types, as a table tells them -/
def tSz (P : Program) (t : TypeId) : Option (Bool × Nat) :=
  match P.underlying t, P.info? t with
  | some d, some i => some ((match d with | .struct _ | .array _ _ => true | _ => false), i.size)
  | _, _ => none
/-- A slice's element: its type, cells, bytes. -/
def tSl (P : Program) (t : TypeId) : Option (TypeId × Nat × Nat) :=
  match P.underlying t with
  | some (.slice e) => match P.info? e with
    | some i => some (e, i.size, i.bytes)
    | none => none
  | _ => none
/-- An array's length, its element's type, the element's cells. -/
def tAr (P : Program) (t : TypeId) : Option (Nat × TypeId × Nat) :=
  match P.underlying t with
  | some (.array n e) => match P.info? e with
    | some i => some (n, e, i.size)
    | none => none
  | _ => none
/-- A struct's field: its offset, its cells, whether it is a struct or an array. -/
def tFd (P : Program) (t : TypeId) (i : Nat) : Option (Nat × Bool × Nat) :=
  match P.underlying t with
  | some (.struct fs) => match fs[i]? with
    | some f => match tSz P f.type with
      | some (ag, s) => some (f.offset, ag, s)
      | none => none
    | none => none
  | _ => none
def tZ (P : Program) (t : TypeId) : Option Value := (P.info? t).bind (·.zero)
def tInt (P : Program) (t : TypeId) : Option IntKind := match P.underlying t with | some (.int k) => some k | _ => none

section runs
variable {P : Program}

theorem tSz_inv {t : TypeId} {ag : Bool} {s : Nat} (h : tSz P t = some (ag, s)) : ∃ d i, P.underlying t = some d ∧ P.info? t = some i ∧ (match d with | .struct _ | .array _ _ => true | _ => false) = ag ∧ i.size = s := by
  unfold tSz at h
  cases hd : P.underlying t with
  | none => simp [hd] at h
  | some d =>
    cases hi : P.info? t with
    | none => simp [hd, hi] at h
    | some i => simp [hd, hi] at h; exact ⟨d, i, rfl, rfl, h.1, h.2⟩

theorem run_isAgg {t : TypeId} {ag : Bool} {s : Nat} (h : tSz P t = some (ag, s)) (w : World) : (isAgg t).run P w = .ok ag w := by
  obtain ⟨d, i, hd, hi, ha, _⟩ := tSz_inv h
  unfold isAgg
  rw [Sem.run_bind, run_underlying hd w]
  subst ha
  cases d <;> rfl
theorem run_sizeOf {t : TypeId} {ag : Bool} {s : Nat} (h : tSz P t = some (ag, s)) (w : World) : (sizeOf t).run P w = .ok s w := by
  obtain ⟨d, i, hd, hi, ha, hs⟩ := tSz_inv h
  simp [sizeOf, typeInfo, hi, hs]

/-- A whole variable of a struct's or an array's type, read. -/
theorem run_loadVar_agg {t : TypeId} {s : Nat} (h : tSz P t = some (true, s)) {w : World} {a : Addr} {cs : List Value} (hl : cs.length = s) (hc : ∀ j v, cs[j]? = some v → w.cell? (a.add j) = some v) :
    (loadVar t a).run P w = .ok (.agg cs.toArray) w := by
  have := run_loadCells_list (P := P) w a cs hc
  simp [loadVar, run_isAgg h, run_sizeOf h, ← hl, this]
theorem run_loadVar_one {t : TypeId} {s : Nat} (h : tSz P t = some (false, s)) {w : World} {a : Addr} {v : Value} (hc : w.cell? a = some v) :
    (loadVar t a).run P w = .ok v w := by
  simp [loadVar, run_isAgg h, hc]

theorem addr_add (b o n : Nat) : (⟨b, o, none⟩ : Addr).add n = ⟨b, o + n, none⟩ := by unfold Addr.add; split <;> simp_all

theorem box_cell {w : World} {b : Nat} {cs : List Value} {ty : TypeId} (h : (Own.box b cs ty).holds w) (j : Nat) : w.cell? ⟨b, j, none⟩ = cs[j]? := by
  have := cell_of_row w b j cs.toArray ty (0, 0) h
  rw [this]; simp

theorem run_load_box_agg {t : TypeId} {s : Nat} (h : tSz P t = some (true, s)) {w : World} {b off : Nat} {cs vs : List Value} {ty : TypeId} (hb : (Own.box b cs ty).holds w)
    (hv : (cs.drop off).take s = vs) (hl : vs.length = s) : (loadVar t ⟨b, off, none⟩).run P w = .ok (.agg vs.toArray) w := by
  refine run_loadVar_agg h hl fun j v hj => ?_
  rw [addr_add, box_cell hb]
  rw [← hv, List.getElem?_take] at hj
  split at hj
  · simpa using hj
  · cases hj
theorem run_load_box_one {t : TypeId} {s : Nat} (h : tSz P t = some (false, s)) {w : World} {b off : Nat} {cs : List Value} {v : Value} {ty : TypeId} (hb : (Own.box b cs ty).holds w)
    (hv : cs[off]? = some v) : (loadVar t ⟨b, off, none⟩).run P w = .ok v w :=
  run_loadVar_one h (by rw [box_cell hb]; exact hv)

/-- The world with the row b holding cs. -/
theorem run_storeVar_box {t : TypeId} {ag : Bool} {s : Nat} (h : tSz P t = some (ag, s)) {w : World} {b off : Nat} {cs vs : List Value} {ty : TypeId} (hb : (Own.box b cs ty).holds w) {v : Value}
    (hv : v.cells = vs.toArray) (hs : vs.length = s) (h1 : ∀ u ∈ vs, u.oneCell' = true) (hl : off + vs.length ≤ cs.length) :
    (storeVar t ⟨b, off, none⟩ v).run P w = .ok () (w.setRow b (splice cs off vs).toArray) := by
  have := run_storeCells_at P b off ty vs 0 cs.toArray w hb (by simpa using hl) h1
  simp only [Nat.add_zero] at this
  simp [storeVar, run_sizeOf h, hv, hs, this, splice]
end runs

theorem box_setRow {w : World} {b : Nat} {cs cs' : List Value} {ty : TypeId} (h : (Own.box b cs ty).holds w) : (Own.box b cs' ty).holds (w.setRow b cs'.toArray) :=
  setRow_heap w b cs.toArray cs'.toArray ty _ h

/-! ### Own blocks: one of them turned -/
inductive Upd : List Own → Own → Own → List Own → Prop
  | hd {o o' : Own} {r : List Own} : Upd (o :: r) o o' (o' :: r)
  | tl {x o o' : Own} {r r' : List Own} (h : Upd r o o' r') : Upd (x :: r) o o' (x :: r')

theorem Upd.mem {B B' : List Own} {o o' : Own} (h : Upd B o o' B') : o ∈ B := by
  induction h with
  | hd => exact .head _
  | tl _ ih => exact .tail _ ih
theorem Upd.of_mem {B B' : List Own} {o o' : Own} (h : Upd B o o' B') {x : Own} (hx : x ∈ B') : x = o' ∨ x ∈ B := by
  induction h with
  | hd => cases hx with
    | head => exact .inl rfl
    | tail _ h => exact .inr (.tail _ h)
  | tl _ ih => cases hx with
    | head => exact .inr (.head _)
    | tail _ h => exact (ih h).imp id (.tail _)
theorem Upd.blks {B B' : List Own} {o o' : Own} (h : Upd B o o' B') (hb : o'.blk = o.blk) (b : Nat) : blks B' b ↔ blks B b := by
  induction h with
  | hd => simp [Proofs.YtjahiohlekdhoaaDoor.blks, hb]
  | tl _ ih =>
    simp only [Proofs.YtjahiohlekdhoaaDoor.blks, List.mem_cons, exists_eq_or_imp] at ih ⊢
    rw [ih hb]
theorem marks_cons (x : Own) (r : List Own) : marks (x :: r) = marks [x] ++ marks r := by cases x <;> rfl
theorem Upd.marks {B B' : List Own} {o o' : Own} (h : Upd B o o' B') (hm : marks [o'] = marks [o]) : marks B' = marks B := by
  induction h with
  | hd => rename_i o o' r; rw [marks_cons o' r, marks_cons o r, hm]
  | @tl x o o' r r' _ ih => rw [marks_cons x r', marks_cons x r, ih hm]
theorem Upd.rest {B B' : List Own} {o o' : Own} (h : Upd B o o' B') (hp : B.Pairwise Apart) (hb : o'.blk = o.blk) :
    B'.Pairwise Apart ∧ ∀ x ∈ B', x = o' ∨ (x ∈ B ∧ Apart o x) := by
  induction h with
  | hd =>
    rename_i o o' r
    cases hp with
    | cons h1 h2 =>
      refine ⟨.cons (fun y hy b hb' => h1 y hy b (hb ▸ hb')) h2, fun x hx => ?_⟩
      cases hx with
      | head => exact .inl rfl
      | tail _ hx => exact .inr ⟨.tail _ hx, h1 x hx⟩
  | tl hu ih =>
    rename_i x o o' r r'
    cases hp with
    | cons h1 h2 =>
      obtain ⟨i1, i2⟩ := ih h2 hb
      refine ⟨.cons (fun y hy b hb' => ?_) i1, fun y hy => ?_⟩
      · rcases i2 y hy with rfl | ⟨hy', _⟩
        · rw [hb]; exact h1 o hu.mem b hb'
        · exact h1 y hy' b hb'
      · cases hy with
        | head => exact .inr ⟨.head _, fun b hb' hx => h1 o hu.mem b hx hb'⟩
        | tail _ hy =>
          rcases i2 y hy with rfl | ⟨hy', ha⟩
          · exact .inl rfl
          · exact .inr ⟨.tail _ hy', ha⟩

section
variable {c : Ctx} {ρ : List (Nat × Value)} {B B' : List Own} {Φ : List Res} {Ψ : List JR} {ops : Array Oper} {rest : List Oper} {Q : Post} {d ty t : Nat} {ps : String} {af : Array Edge} {x y z : Operand} {v u : Value}

/-- The state behind a turn of own block b to a block that holds o'. -/
theorem MS.turn {V U M : Av} {w w' : World} (m : MS c B Φ Ψ V U M w) {o o' : Own} (hu : Upd B o o' B') (hb : o'.blk = o.blk) (hh : o'.holds w') (hsz : w'.heap.size = w.heap.size)
    (hk : ∀ k, o.blk ≠ some k → w'.heap[k]? = w.heap[k]?) (hio : Io w w' := by exact ⟨rfl, rfl, rfl⟩) : MS c B' Φ Ψ V U M w' := by
  have hV : ∀ b, o.blk = some b → V b := fun b h => m.vb b ⟨o, hu.mem, h⟩
  have hU : ∀ b, o.blk = some b → U b := fun b h => m.ub b ⟨o, hu.mem, h⟩
  have kv : Kept V V w w' := ⟨by omega, fun b _ hn => hk b fun h => hn (hV b h), fun _ _ h => h⟩
  have ku : Kept U U w w' := ⟨by omega, fun b _ hn => hk b fun h => hn (hU b h), fun _ _ h => h⟩
  obtain ⟨r1, r2⟩ := hu.rest m.sep.apart hb
  refine ⟨m.vx, m.vm, fun b h => m.vb b ((hu.blks hb b).1 h), fun b h => by rw [hsz]; exact m.vlt b h, fun b h => m.ub b ((hu.blks hb b).1 h), fun b h => by rw [hsz]; exact m.ult b h, ⟨fun q hq => ?_, r1⟩, fun b h => m.own b ((hu.blks hb b).1 h),
    fun φ hφ => φ.st kv (m.phi φ hφ), fun ψ hψ => ψ.st ku (m.psi ψ hψ), c.G.st kv m.g, by rw [hsz]; exact m.sz, fun b h1 h2 h3 => ?_, m.xlt, m.mo, m.io.trans hio⟩
  · rcases r2 q hq with rfl | ⟨hq', ha⟩
    · exact hh
    · exact Own.keep (m.sep.holds q hq') fun b hb' => hk b fun h => ha b h hb'
  · refine (hk b fun h => ?_).trans (m.frame b h1 h2 h3)
    rcases (m.own b ⟨o, hu.mem, h⟩).1 with h' | h'
    · exact h2 h'
    · omega

/-- A new block: w' is w with one more block. -/
theorem MS.new {V U M : Av} {w w' : World} (m : MS c B Φ Ψ V U M w) {o : Own} (hb : o.blk = some w.heap.size) (hh : o.holds w') (hsz : w'.heap.size = w.heap.size + 1)
    (hk : ∀ k, k < w.heap.size → w'.heap[k]? = w.heap[k]?) (hio : Io w w' := by exact ⟨rfl, rfl, rfl⟩) : ∃ V' U', MS c (o :: B) Φ Ψ V' U' M w' := by
  have kv : Kept V (fun b => b = w.heap.size ∨ V b) w w' := ⟨by omega, fun b hl _ => hk b hl, fun b hl h => h.resolve_left (by omega)⟩
  have ku : Kept U (fun b => b = w.heap.size ∨ U b) w w' := ⟨by omega, fun b hl _ => hk b hl, fun b hl h => h.resolve_left (by omega)⟩
  have hbl : ∀ b, blks (o :: B) b → b = w.heap.size ∨ blks B b := fun b ⟨q, hq, h⟩ => by
    cases hq with
    | head => exact .inl (by rw [hb] at h; cases h; rfl)
    | tail _ hq => exact .inr ⟨q, hq, h⟩
  refine ⟨fun b => b = w.heap.size ∨ V b, fun b => b = w.heap.size ∨ U b, ⟨fun b h => .inr (m.vx b h), fun b h => .inr (m.vm b h), fun b h => (hbl b h).imp id (m.vb b), fun b h => ?_, fun b h => (hbl b h).imp id (m.ub b),
    fun b h => ?_, ⟨fun q hq => ?_, .cons (fun q hq b h1 h2 => ?_) m.sep.apart⟩, fun b h => ?_, fun φ hφ => φ.st kv (m.phi φ hφ), fun ψ hψ => ψ.st ku (m.psi ψ hψ), c.G.st kv m.g, by rw [hsz]; exact Nat.le_succ_of_le m.sz, fun b h1 h2 h3 => ?_, m.xlt, m.mo, m.io.trans hio⟩⟩
  · rcases h with rfl | h
    · omega
    · have := m.vlt b h; omega
  · rcases h with rfl | h
    · omega
    · have := m.ult b h; omega
  · cases hq with
    | head => exact hh
    | tail _ hq => exact Own.keep (m.sep.holds q hq) fun b h => hk b (Own.lt (m.sep.holds q hq) h)
  · rw [hb] at h1; cases h1
    have := Own.lt (m.sep.holds q hq) h2
    omega
  · rcases hbl b h with rfl | h'
    · exact ⟨.inr m.sz, fun h => by have := m.xlt _ h; have := m.sz; omega, fun h => by have := m.vlt _ (m.vm _ h); omega⟩
    · exact m.own b h'
  · have h := m.sz
    exact (hk b (by omega)).trans (m.frame b h1 h2 h3)

/-! ### Operations that leave memory alone -/
/-- Whatever operation that runs to a value, the world as it was. -/
theorem r_val {o : Oper} (hg : o.guard = none) (hnd : ∀ c, o.op ≠ .defer c) (hd : o.dst = some d) (hb : Nat.blt d c.nt = true)
    (hrun : ∀ a w, St c ρ B Φ Ψ a w → (execOp a.eval o).run c.P w = .ok (.value v) w) (k : SL c ((d, v) :: ρ) B Φ Ψ ops rest Q) : SL c ρ B Φ Ψ ops (o :: rest) Q :=
  sl_plain hg fun a w hs _K hK => op_value hnd (hrun a w hs) (hK _ _ (k _ _ (hd ▸ hs.put hb v)))

theorem r_move (hx : ev ρ x = some v := by exact rfl) (hb : Nat.blt d c.nt = true := by exact rfl) (k : SL c ((d, v) :: ρ) B Φ Ψ ops rest Q) : SL c ρ B Φ Ψ ops (⟨some d, .move x, ty, ps, af, none⟩ :: rest) Q :=
  r_val rfl (fun _ => by simp) rfl hb (fun a w hs => by simp only [execOp, hs.ev hx, Sem.run_pure]) k
theorem r_assign (hx : ev ρ x = some v := by exact rfl) (hb : Nat.blt d c.nt = true := by exact rfl) (k : SL c ((d, v) :: ρ) B Φ Ψ ops rest Q) : SL c ρ B Φ Ψ ops (⟨some d, .assign x, ty, ps, af, none⟩ :: rest) Q :=
  r_val rfl (fun _ => by simp) rfl hb (fun a w hs => by simp only [execOp, hs.ev hx, Sem.run_pure]) k
theorem r_pick_t (hx : ev ρ x = some (.bool true)) (hy : ev ρ y = some v) (hb : Nat.blt d c.nt = true) (k : SL c ((d, v) :: ρ) B Φ Ψ ops rest Q) : SL c ρ B Φ Ψ ops (⟨some d, .pick x y z, ty, ps, af, none⟩ :: rest) Q :=
  r_val rfl (fun _ => by simp) rfl hb (fun a w hs => by simp [execOp, hs.ev hx, hs.ev hy, asBool]) k
theorem r_pick_f (hx : ev ρ x = some (.bool false)) (hz : ev ρ z = some v) (hb : Nat.blt d c.nt = true) (k : SL c ((d, v) :: ρ) B Φ Ψ ops rest Q) : SL c ρ B Φ Ψ ops (⟨some d, .pick x y z, ty, ps, af, none⟩ :: rest) Q :=
  r_val rfl (fun _ => by simp) rfl hb (fun a w hs => by simp [execOp, hs.ev hx, hs.ev hz, asBool]) k

/-- A slot told anew. -/
theorem r_re {t : Nat} {v v' : Value} (hx : lk ρ t = some v) (e : v = v') (k : SL c ((t, v') :: ρ) B Φ Ψ ops rest Q) : SL c ρ B Φ Ψ ops rest Q := fun a w hs => k a w ⟨hs.nt, fun s u hu => by
  rw [lk_cons] at hu
  split at hu
  · rename_i h; subst h; cases hu; subst e; exact hs.reg _ _ hx
  · exact hs.reg s u hu, hs.dfr, hs.mem⟩
theorem w_re {t : Nat} {v v' : Value} {code : Code} (hx : lk ρ t = some v) (e : v = v') (k : SW c ((t, v') :: ρ) B Φ Ψ code Q) : SW c ρ B Φ Ψ code Q := fun a w hs => k a w ⟨hs.nt, fun s u hu => by
  rw [lk_cons] at hu
  split at hu
  · rename_i h; subst h; cases hu; subst e; exact hs.reg _ _ hx
  · exact hs.reg s u hu, hs.dfr, hs.mem⟩

/-! ### Guards -/
theorem yielded_of {a : Act} {w : World} (hs : St c ρ B Φ Ψ a w) {j g : Nat} {o : Oper} {b : Bool} (ho : ops[j]? = some o) (hd : o.dst = some g) (hx : lk ρ g = some (.bool b)) (hb : Nat.blt g c.nt = true) : yielded ops a.tmps j = some b := by
  have h1 := hs.reg g _ hx
  have hlt : g < a.tmps.size := by rw [hs.nt]; simpa [Nat.blt_eq] using hb
  have h2 : a.tmps[g]? = some (.bool b) := by
    rw [Array.getD_eq_getD_getElem?] at h1
    rw [Array.getElem?_eq_getElem hlt] at h1 ⊢
    simpa using h1
  simp [yielded, ho, hd, h2]

/-- A guarded operation whose guard says yes: as one without a guard. -/
theorem g_yes {o : Op} {dst : Option Tmp} {j g : Nat} {og : Oper} {want : Bool} (ho : ops[j]? = some og) (hd : og.dst = some g) (hx : lk ρ g = some (.bool want)) (hb : Nat.blt g c.nt = true)
    (k : SL c ρ B Φ Ψ ops (⟨dst, o, ty, ps, af, none⟩ :: rest) Q) : SL c ρ B Φ Ψ ops (⟨dst, o, ty, ps, af, some (j, want)⟩ :: rest) Q := fun a w hs => by
  have h := k a w hs
  have hy := yielded_of (ops := ops) hs ho hd hx hb
  simp only [wpListIn, Region.wanted, hy, beq_self_eq_true, if_true] at h ⊢
  exact h
theorem g_no {o : Op} {j g : Nat} {og : Oper} {want have' : Bool} (ho : ops[j]? = some og) (hd : og.dst = some g) (hx : lk ρ g = some (.bool have')) (hb : Nat.blt g c.nt = true) (hne : (have' == want) = false)
    (hb' : Nat.blt d c.nt = true) (k : SL c ((d, undef) :: ρ) B Φ Ψ ops rest Q) : SL c ρ B Φ Ψ ops (⟨some d, o, ty, ps, af, some (j, want)⟩ :: rest) Q := fun a w hs => by
  have h := k _ w (hs.put hb' undef)
  have hy := yielded_of (ops := ops) hs ho hd hx hb
  have hw : (some have' == some want) = false := by simpa using hne
  simp only [wpListIn, Region.wanted, hy, hw, Bool.false_eq_true, if_false]
  exact ⟨fun _ _ => trivial, h⟩
theorem g_no' {o : Op} {j g : Nat} {og : Oper} {want have' : Bool} (ho : ops[j]? = some og) (hd : og.dst = some g) (hx : lk ρ g = some (.bool have')) (hb : Nat.blt g c.nt = true) (hne : (have' == want) = false)
    (k : SL c ρ B Φ Ψ ops rest Q) : SL c ρ B Φ Ψ ops (⟨none, o, ty, ps, af, some (j, want)⟩ :: rest) Q := fun a w hs => by
  have h := k _ w hs
  have hy := yielded_of (ops := ops) hs ho hd hx hb
  have hw : (some have' == some want) = false := by simpa using hne
  simp only [wpListIn, Region.wanted, hy, hw, Bool.false_eq_true, if_false]
  exact ⟨fun _ _ => trivial, h⟩
/-- A slot's bool is parted: the slot is told as true, or false. -/
theorem b_part {t : Nat} {b : Bool} {l : List Oper} (hx : lk ρ t = some (.bool b)) (h1 : b = true → SL c ((t, .bool true) :: ρ) B Φ Ψ ops l Q) (h2 : b = false → SL c ((t, .bool false) :: ρ) B Φ Ψ ops l Q) : SL c ρ B Φ Ψ ops l Q := by
  cases b
  · exact r_re hx rfl (h2 rfl)
  · exact r_re hx rfl (h1 rfl)

/-! ### Arithmetic -/
section arith
variable {yt xt : TypeId} {m n : Int} {kk : IntKind}

theorem r_bin {op : BinOp} (hx : ev ρ x = some u) (hy : ev ρ y = some v) {r : Value} (hb : Nat.blt d c.nt = true) (hrun : ∀ w, ((do eqGuard op xt x y u v; binOp op xt u v) : Sem Value).run c.P w = .ok r w)
    (k : SL c ((d, r) :: ρ) B Φ Ψ ops rest Q) : SL c ρ B Φ Ψ ops (⟨some d, .binOp op xt x y yt, ty, ps, af, none⟩ :: rest) Q :=
  r_val rfl (fun _ => by simp) rfl hb (fun a w hs => by
    have h := hrun w
    simp only [Sem.run_bind] at h
    simp only [execOp, hs.ev hx, hs.ev hy, Sem.run_bind, h, Result.andThen_ok, Sem.run_pure]) k

theorem r_add (hx : ev ρ x = some (.int kk m)) (hy : ev ρ y = some (.int kk n)) (hb : Nat.blt d c.nt = true) (k : SL c ((d, .int kk (kk.wrap (m + n))) :: ρ) B Φ Ψ ops rest Q) :
    SL c ρ B Φ Ψ ops (⟨some d, .binOp .add xt x y yt, ty, ps, af, none⟩ :: rest) Q := r_bin hx hy hb (fun w => by simp [eqGuard, binOp, Op.intArith]) k
theorem r_sub (hx : ev ρ x = some (.int kk m)) (hy : ev ρ y = some (.int kk n)) (hb : Nat.blt d c.nt = true) (k : SL c ((d, .int kk (kk.wrap (m - n))) :: ρ) B Φ Ψ ops rest Q) :
    SL c ρ B Φ Ψ ops (⟨some d, .binOp .sub xt x y yt, ty, ps, af, none⟩ :: rest) Q := r_bin hx hy hb (fun w => by simp [eqGuard, binOp, Op.intArith]) k
theorem r_mul (hx : ev ρ x = some (.int kk m)) (hy : ev ρ y = some (.int kk n)) (hb : Nat.blt d c.nt = true) (k : SL c ((d, .int kk (kk.wrap (m * n))) :: ρ) B Φ Ψ ops rest Q) :
    SL c ρ B Φ Ψ ops (⟨some d, .binOp .mul xt x y yt, ty, ps, af, none⟩ :: rest) Q := r_bin hx hy hb (fun w => by simp [eqGuard, binOp, Op.intArith]) k

theorem wrap_in {n : Int} (h1 : -9223372036854775808 ≤ n) (h2 : n ≤ 9223372036854775807) : IntKind.i64.wrap n = n := by
  simp only [IntKind.wrap, IntKind.signed, IntKind.bits, Bool.true_and, Int.reducePow, Nat.reduceSub]
  by_cases h : n % 18446744073709551616 ≥ 9223372036854775808
  · simp only [h, decide_true, if_true]; omega
  · simp only [h, decide_false, Bool.false_eq_true, if_false]; omega
theorem r_add64 (hx : ev ρ x = some (.int .i64 m) := by exact rfl) (hy : ev ρ y = some (.int .i64 n) := by exact rfl) (hb : Nat.blt d c.nt = true := by exact rfl) (h1 : -9223372036854775808 ≤ m + n := by omega) (h2 : m + n ≤ 9223372036854775807 := by omega) (k : SL c ((d, .int .i64 (m + n)) :: ρ) B Φ Ψ ops rest Q) :
    SL c ρ B Φ Ψ ops (⟨some d, .binOp .add xt x y yt, ty, ps, af, none⟩ :: rest) Q := r_add hx hy hb (by rw [wrap_in h1 h2]; exact k)
theorem r_sub64 (hx : ev ρ x = some (.int .i64 m) := by exact rfl) (hy : ev ρ y = some (.int .i64 n) := by exact rfl) (hb : Nat.blt d c.nt = true := by exact rfl) (h1 : -9223372036854775808 ≤ m - n := by omega) (h2 : m - n ≤ 9223372036854775807 := by omega) (k : SL c ((d, .int .i64 (m - n)) :: ρ) B Φ Ψ ops rest Q) :
    SL c ρ B Φ Ψ ops (⟨some d, .binOp .sub xt x y yt, ty, ps, af, none⟩ :: rest) Q := r_sub hx hy hb (by rw [wrap_in h1 h2]; exact k)

theorem r_lss (hx : ev ρ x = some (.int kk m) := by exact rfl) (hy : ev ρ y = some (.int kk n) := by exact rfl) (hb : Nat.blt d c.nt = true := by exact rfl) (k : SL c ((d, .bool (decide (m < n))) :: ρ) B Φ Ψ ops rest Q) :
    SL c ρ B Φ Ψ ops (⟨some d, .binOp .lss xt x y yt, ty, ps, af, none⟩ :: rest) Q := r_bin hx hy hb (fun w => by simp [eqGuard, binOp, Op.intCmp]) k
theorem r_leq (hx : ev ρ x = some (.int kk m) := by exact rfl) (hy : ev ρ y = some (.int kk n) := by exact rfl) (hb : Nat.blt d c.nt = true := by exact rfl) (k : SL c ((d, .bool (decide (m ≤ n))) :: ρ) B Φ Ψ ops rest Q) :
    SL c ρ B Φ Ψ ops (⟨some d, .binOp .leq xt x y yt, ty, ps, af, none⟩ :: rest) Q := r_bin hx hy hb (fun w => by simp [eqGuard, binOp, Op.intCmp]) k
theorem r_gtr (hx : ev ρ x = some (.int kk m) := by exact rfl) (hy : ev ρ y = some (.int kk n) := by exact rfl) (hb : Nat.blt d c.nt = true := by exact rfl) (k : SL c ((d, .bool (decide (n < m))) :: ρ) B Φ Ψ ops rest Q) :
    SL c ρ B Φ Ψ ops (⟨some d, .binOp .gtr xt x y yt, ty, ps, af, none⟩ :: rest) Q := r_bin hx hy hb (fun w => by simp [eqGuard, binOp, Op.intCmp]) k
theorem r_geq (hx : ev ρ x = some (.int kk m) := by exact rfl) (hy : ev ρ y = some (.int kk n) := by exact rfl) (hb : Nat.blt d c.nt = true := by exact rfl) (k : SL c ((d, .bool (decide (n ≤ m))) :: ρ) B Φ Ψ ops rest Q) :
    SL c ρ B Φ Ψ ops (⟨some d, .binOp .geq xt x y yt, ty, ps, af, none⟩ :: rest) Q := r_bin hx hy hb (fun w => by simp [eqGuard, binOp, Op.intCmp]) k
theorem r_eql (hx : ev ρ x = some (.int kk m) := by exact rfl) (hy : ev ρ y = some (.int kk n) := by exact rfl) (hb : Nat.blt d c.nt = true := by exact rfl) (k : SL c ((d, .bool (decide (m = n))) :: ρ) B Φ Ψ ops rest Q) :
    SL c ρ B Φ Ψ ops (⟨some d, .binOp .eql xt x y yt, ty, ps, af, none⟩ :: rest) Q := r_bin hx hy hb (fun w => by
      have e : (m == n) = decide (m = n) := by by_cases h : m = n <;> simp [h]
      simp [eqGuard, binOp, Op.intCmp, e]) k
theorem r_neq (hx : ev ρ x = some (.int kk m) := by exact rfl) (hy : ev ρ y = some (.int kk n) := by exact rfl) (hb : Nat.blt d c.nt = true := by exact rfl) (k : SL c ((d, .bool (decide (m ≠ n))) :: ρ) B Φ Ψ ops rest Q) :
    SL c ρ B Φ Ψ ops (⟨some d, .binOp .neq xt x y yt, ty, ps, af, none⟩ :: rest) Q := r_bin hx hy hb (fun w => by
      have e : (m != n) = decide (m ≠ n) := by by_cases h : m = n <;> simp [h]
      simp [eqGuard, binOp, Op.intCmp, e]) k
theorem r_eqlb {p q : Bool} (ht : c.P.underlying xt = some .bool) (hx : ev ρ x = some (.bool p)) (hy : ev ρ y = some (.bool q)) (hb : Nat.blt d c.nt = true) (k : SL c ((d, .bool (p == q)) :: ρ) B Φ Ψ ops rest Q) :
    SL c ρ B Φ Ψ ops (⟨some d, .binOp .eql xt x y yt, ty, ps, af, none⟩ :: rest) Q := r_bin hx hy hb (fun w => by simp only [Sem.run_bind, eqGuard, binOp, Op.equal, Op.maxDepth]; simp [run_equalIn_bool' w 9999 xt p q ht]) k
theorem r_neqb {p q : Bool} (ht : c.P.underlying xt = some .bool) (hx : ev ρ x = some (.bool p)) (hy : ev ρ y = some (.bool q)) (hb : Nat.blt d c.nt = true) (k : SL c ((d, .bool (!(p == q))) :: ρ) B Φ Ψ ops rest Q) :
    SL c ρ B Φ Ψ ops (⟨some d, .binOp .neq xt x y yt, ty, ps, af, none⟩ :: rest) Q := r_bin hx hy hb (fun w => by simp only [Sem.run_bind, eqGuard, binOp, Op.equal, Op.maxDepth]; simp [run_equalIn_bool' w 9999 xt p q ht]) k
theorem r_not {p : Bool} (hx : ev ρ x = some (.bool p) := by exact rfl) (hb : Nat.blt d c.nt = true := by exact rfl) (k : SL c ((d, .bool (!p)) :: ρ) B Φ Ψ ops rest Q) :
    SL c ρ B Φ Ψ ops (⟨some d, .unOp .not xt x, ty, ps, af, none⟩ :: rest) Q :=
  r_val rfl (fun _ => by simp) rfl hb (fun a w hs => by simp [execOp, hs.ev hx, Op.unary]) k
/-- A whole number's kind changed. -/
theorem r_conv {st dt : TypeId} {k' : IntKind} (ht : tInt c.P dt = some kk) (hs' : ∀ w, ∃ ds, (underlying st).run c.P w = .ok ds w) (hx : ev ρ x = some (.int k' m)) (hb : Nat.blt d c.nt = true) (k : SL c ((d, .int kk (kk.wrap m)) :: ρ) B Φ Ψ ops rest Q) :
    SL c ρ B Φ Ψ ops (⟨some d, .convert st dt x, ty, ps, af, none⟩ :: rest) Q :=
  r_val rfl (fun _ => by simp) rfl hb (fun a w hs => by
    obtain ⟨ds, hds⟩ := hs' w
    have hk : c.P.underlying dt = some (.int kk) := by
      unfold tInt at ht
      split at ht
      · rename_i h; cases ht; exact h
      · cases ht
    simp only [execOp, hs.ev hx, convert, Sem.run_bind, hds, Result.andThen_ok, run_underlying hk w]
    cases ds <;> simp [Conv.intToInt]) k
end arith

/-! ### Tuples -/
theorem r_extract {vs : Array Value} {i : Nat} (hx : ev ρ x = some (.tuple vs)) (hi : vs[i]? = some v) (hb : Nat.blt d c.nt = true) (k : SL c ((d, v) :: ρ) B Φ Ψ ops rest Q) :
    SL c ρ B Φ Ψ ops (⟨some d, .extract x i, ty, ps, af, none⟩ :: rest) Q :=
  r_val rfl (fun _ => by simp) rfl hb (fun a w hs => by simp [execOp, hs.ev hx, Instr.extract, hi]) k

/-! ### Own variables -/
theorem heap_alloc_lt (w : World) (o : Obj) (k : Nat) (h : k < w.heap.size) : (w.alloc o).heap[k]? = w.heap[k]? := heap_alloc_old w o k h

theorem r_alloc (hz : tZ c.P t = some v) {cs : List Value} (hv : v.cells = cs.toArray) (hb : Nat.blt d c.nt = true) (k : ∀ b, SL c ((d, .pointer (some ⟨b, 0, none⟩)) :: ρ) (.box b cs t :: B) Φ Ψ ops rest Q) :
    SL c ρ B Φ Ψ ops (⟨some d, .alloc t, ty, ps, af, none⟩ :: rest) Q :=
  sl_plain rfl fun a w hs K hK => by
    have hz' : ∃ i, c.P.info? t = some i ∧ i.zero = some v := by
      unfold tZ at hz
      cases hi : c.P.info? t with
      | none => simp [hi] at hz
      | some i => simp [hi] at hz; exact ⟨i, rfl, hz⟩
    obtain ⟨i, hi, hiz⟩ := hz'
    refine op_value (v := .pointer (some ⟨w.heap.size, 0, none⟩)) (w' := w.alloc (.cells cs.toArray t)) (fun _ => by simp) ?_ (hK _ _ (k w.heap.size _ _ ?_))
    · simp [execOp, Instr.alloc, zeroValue, typeInfo, hi, hiz, newVar, newRow, hv]
    · obtain ⟨V, U, M, m⟩ := hs.mem
      obtain ⟨V', U', m'⟩ := m.new (o := .box w.heap.size cs t) (w' := w.alloc (.cells cs.toArray t)) rfl (heap_alloc_new w _) (by simp) (heap_alloc_lt w _)
      exact (hs.put hb _).mem' rfl m'
theorem r_box (hx : ev ρ x = some v := by exact rfl) {cs : List Value} (hv : v.cells = cs.toArray := by first | assumption | exact rfl) (hb : Nat.blt d c.nt = true := by exact rfl) (k : ∀ b, SL c ((d, .pointer (some ⟨b, 0, none⟩)) :: ρ) (.box b cs t :: B) Φ Ψ ops rest Q) :
    SL c ρ B Φ Ψ ops (⟨some d, .box t x, ty, ps, af, none⟩ :: rest) Q :=
  sl_plain rfl fun a w hs K hK => by
    refine op_value (v := .pointer (some ⟨w.heap.size, 0, none⟩)) (w' := w.alloc (.cells cs.toArray t)) (fun _ => by simp) ?_ (hK _ _ (k w.heap.size _ _ ?_))
    · simp [execOp, hs.ev hx, Instr.box, newVar, newRow, hv]
    · obtain ⟨V, U, M, m⟩ := hs.mem
      obtain ⟨V', U', m'⟩ := m.new (o := .box w.heap.size cs t) (w' := w.alloc (.cells cs.toArray t)) rfl (heap_alloc_new w _) (by simp) (heap_alloc_lt w _)
      exact (hs.put hb _).mem' rfl m'

theorem r_load_agg {b off s : Nat} {cs vs : List Value} {bt : TypeId} (ht : tSz c.P t = some (true, s) := by exact tz rfl) (hx : ev ρ x = some (.pointer (some ⟨b, off, none⟩)) := by exact rfl) (hB : Own.box b cs bt ∈ B := by first | exact .head _ | exact .tail _ (.head _) | exact .tail _ (.tail _ (.head _)) | exact .tail _ (.tail _ (.tail _ (.head _))) | exact .tail _ (.tail _ (.tail _ (.tail _ (.head _)))) | exact .tail _ (.tail _ (.tail _ (.tail _ (.tail _ (.head _))))) | exact .tail _ (.tail _ (.tail _ (.tail _ (.tail _ (.tail _ (.head _)))))) | exact .tail _ (.tail _ (.tail _ (.tail _ (.tail _ (.tail _ (.tail _ (.head _))))))) | exact .tail _ (.tail _ (.tail _ (.tail _ (.tail _ (.tail _ (.tail _ (.tail _ (.head _)))))))) | exact .tail _ (.tail _ (.tail _ (.tail _ (.tail _ (.tail _ (.tail _ (.tail _ (.tail _ (.head _))))))))) | exact .tail _ (.tail _ (.tail _ (.tail _ (.tail _ (.tail _ (.tail _ (.tail _ (.tail _ (.tail _ (.head _)))))))))) | exact .tail _ (.tail _ (.tail _ (.tail _ (.tail _ (.tail _ (.tail _ (.tail _ (.tail _ (.tail _ (.tail _ (.head _)))))))))))) (hv : (cs.drop off).take s = vs := by exact rfl) (hl : vs.length = s := by exact rfl)
    (hb : Nat.blt d c.nt = true := by exact rfl) (k : SL c ((d, .agg vs.toArray) :: ρ) B Φ Ψ ops rest Q) : SL c ρ B Φ Ψ ops (⟨some d, .load t x, ty, ps, af, none⟩ :: rest) Q :=
  r_val rfl (fun _ => by simp) rfl hb (fun a w hs => by
    obtain ⟨V, U, M, m⟩ := hs.mem
    simp [execOp, hs.ev hx, Instr.loadAt, Instr.sureAddr, run_load_box_agg ht (m.sep.holds _ hB) hv hl]) k
theorem r_load_all {b s : Nat} {cs : List Value} {bt : TypeId} (ht : tSz c.P t = some (true, s) := by exact tz rfl) (hx : ev ρ x = some (.pointer (some ⟨b, 0, none⟩)) := by exact rfl) (hB : Own.box b cs bt ∈ B := by first | exact .head _ | exact .tail _ (.head _) | exact .tail _ (.tail _ (.head _)) | exact .tail _ (.tail _ (.tail _ (.head _))) | exact .tail _ (.tail _ (.tail _ (.tail _ (.head _)))) | exact .tail _ (.tail _ (.tail _ (.tail _ (.tail _ (.head _))))) | exact .tail _ (.tail _ (.tail _ (.tail _ (.tail _ (.tail _ (.head _)))))) | exact .tail _ (.tail _ (.tail _ (.tail _ (.tail _ (.tail _ (.tail _ (.head _))))))) | exact .tail _ (.tail _ (.tail _ (.tail _ (.tail _ (.tail _ (.tail _ (.tail _ (.head _)))))))) | exact .tail _ (.tail _ (.tail _ (.tail _ (.tail _ (.tail _ (.tail _ (.tail _ (.tail _ (.head _))))))))) | exact .tail _ (.tail _ (.tail _ (.tail _ (.tail _ (.tail _ (.tail _ (.tail _ (.tail _ (.tail _ (.head _)))))))))) | exact .tail _ (.tail _ (.tail _ (.tail _ (.tail _ (.tail _ (.tail _ (.tail _ (.tail _ (.tail _ (.tail _ (.head _)))))))))))) (hl : cs.length = s := by exact rfl)
    (hb : Nat.blt d c.nt = true := by exact rfl) (k : SL c ((d, .agg cs.toArray) :: ρ) B Φ Ψ ops rest Q) : SL c ρ B Φ Ψ ops (⟨some d, .load t x, ty, ps, af, none⟩ :: rest) Q :=
  r_load_agg ht hx hB (by rw [List.drop_zero]; exact List.take_of_length_le (Nat.le_of_eq hl)) hl hb k
theorem r_load_one {b off s : Nat} {cs : List Value} {bt : TypeId} (ht : tSz c.P t = some (false, s) := by exact tz rfl) (hx : ev ρ x = some (.pointer (some ⟨b, off, none⟩)) := by exact rfl) (hB : Own.box b cs bt ∈ B := by first | exact .head _ | exact .tail _ (.head _) | exact .tail _ (.tail _ (.head _)) | exact .tail _ (.tail _ (.tail _ (.head _))) | exact .tail _ (.tail _ (.tail _ (.tail _ (.head _)))) | exact .tail _ (.tail _ (.tail _ (.tail _ (.tail _ (.head _))))) | exact .tail _ (.tail _ (.tail _ (.tail _ (.tail _ (.tail _ (.head _)))))) | exact .tail _ (.tail _ (.tail _ (.tail _ (.tail _ (.tail _ (.tail _ (.head _))))))) | exact .tail _ (.tail _ (.tail _ (.tail _ (.tail _ (.tail _ (.tail _ (.tail _ (.head _)))))))) | exact .tail _ (.tail _ (.tail _ (.tail _ (.tail _ (.tail _ (.tail _ (.tail _ (.tail _ (.head _))))))))) | exact .tail _ (.tail _ (.tail _ (.tail _ (.tail _ (.tail _ (.tail _ (.tail _ (.tail _ (.tail _ (.head _)))))))))) | exact .tail _ (.tail _ (.tail _ (.tail _ (.tail _ (.tail _ (.tail _ (.tail _ (.tail _ (.tail _ (.tail _ (.head _)))))))))))) (hv : cs[off]? = some v := by exact rfl)
    (hb : Nat.blt d c.nt = true := by exact rfl) (k : SL c ((d, v) :: ρ) B Φ Ψ ops rest Q) : SL c ρ B Φ Ψ ops (⟨some d, .load t x, ty, ps, af, none⟩ :: rest) Q :=
  r_val rfl (fun _ => by simp) rfl hb (fun a w hs => by
    obtain ⟨V, U, M, m⟩ := hs.mem
    simp [execOp, hs.ev hx, Instr.loadAt, Instr.sureAddr, run_load_box_one ht (m.sep.holds _ hB) hv]) k

theorem size_setRow' (w : World) (g : Nat) (cs : Array Value) : (w.setRow g cs).heap.size = w.heap.size := by simp

theorem r_store {b off s : Nat} {ag : Bool} {cs cs' vs : List Value} {bt : TypeId} (ht : tSz c.P t = some (ag, s) := by exact tz rfl) (hx : ev ρ x = some (.pointer (some ⟨b, off, none⟩)) := by exact rfl) (hy : ev ρ y = some v := by exact rfl)
    (hB : Upd B (.box b cs bt) (.box b cs' bt) B' := by first | exact .hd | exact .tl (.hd) | exact .tl (.tl (.hd)) | exact .tl (.tl (.tl (.hd))) | exact .tl (.tl (.tl (.tl (.hd)))) | exact .tl (.tl (.tl (.tl (.tl (.hd))))) | exact .tl (.tl (.tl (.tl (.tl (.tl (.hd)))))) | exact .tl (.tl (.tl (.tl (.tl (.tl (.tl (.hd))))))) | exact .tl (.tl (.tl (.tl (.tl (.tl (.tl (.tl (.hd)))))))) | exact .tl (.tl (.tl (.tl (.tl (.tl (.tl (.tl (.tl (.hd))))))))) | exact .tl (.tl (.tl (.tl (.tl (.tl (.tl (.tl (.tl (.tl (.hd)))))))))) | exact .tl (.tl (.tl (.tl (.tl (.tl (.tl (.tl (.tl (.tl (.tl (.hd)))))))))))) (hv : v.cells = vs.toArray := by exact rfl) (hs : vs.length = s := by exact rfl) (h1 : vs.all Value.oneCell' = true := by exact rfl) (hl : off + vs.length ≤ cs.length := by decide) (hcs : splice cs off vs = cs' := by exact rfl)
    (k : SL c ρ B' Φ Ψ ops rest Q) : SL c ρ B Φ Ψ ops (⟨none, .store t x y, ty, ps, af, none⟩ :: rest) Q :=
  sl_plain rfl fun a w st K hK => by
    obtain ⟨V, U, M, m⟩ := st.mem
    have hold := m.sep.holds _ hB.mem
    have hrun := run_storeVar_box ht hold hv hs (fun u hu => List.all_eq_true.1 h1 u hu) hl
    refine op_skip (w' := w.setRow b (splice cs off vs).toArray) (fun _ => by simp) ?_ (hK _ _ (k _ _ ?_))
    · simp [execOp, st.ev hx, st.ev hy, Instr.storeAt, Instr.sureAddr, hrun]
    · refine st.mem' (hB.marks rfl) (m.turn hB rfl (w' := w.setRow b (splice cs off vs).toArray) (by rw [hcs]; exact box_setRow hold) (by simp) fun k hk => setRow_other w b k _ (fun e => hk (by rw [e]; rfl)))
theorem r_store_all {b s : Nat} {ag : Bool} {cs vs : List Value} {bt : TypeId} (ht : tSz c.P t = some (ag, s) := by exact tz rfl) (hx : ev ρ x = some (.pointer (some ⟨b, 0, none⟩)) := by exact rfl) (hy : ev ρ y = some v := by exact rfl)
    (hB : Upd B (.box b cs bt) (.box b vs bt) B' := by first | exact .hd | exact .tl (.hd) | exact .tl (.tl (.hd)) | exact .tl (.tl (.tl (.hd))) | exact .tl (.tl (.tl (.tl (.hd)))) | exact .tl (.tl (.tl (.tl (.tl (.hd))))) | exact .tl (.tl (.tl (.tl (.tl (.tl (.hd)))))) | exact .tl (.tl (.tl (.tl (.tl (.tl (.tl (.hd))))))) | exact .tl (.tl (.tl (.tl (.tl (.tl (.tl (.tl (.hd)))))))) | exact .tl (.tl (.tl (.tl (.tl (.tl (.tl (.tl (.tl (.hd))))))))) | exact .tl (.tl (.tl (.tl (.tl (.tl (.tl (.tl (.tl (.tl (.hd)))))))))) | exact .tl (.tl (.tl (.tl (.tl (.tl (.tl (.tl (.tl (.tl (.tl (.hd)))))))))))) (hv : v.cells = vs.toArray := by exact rfl) (hs : vs.length = s := by exact rfl) (h1 : vs.all Value.oneCell' = true := by exact rfl) (hl : cs.length = s := by exact rfl)
    (k : SL c ρ B' Φ Ψ ops rest Q) : SL c ρ B Φ Ψ ops (⟨none, .store t x y, ty, ps, af, none⟩ :: rest) Q :=
  r_store ht hx hy hB hv hs h1 (by omega) (by simp [splice, List.drop_of_length_le (show cs.length ≤ vs.length by omega)]) k
/-- A store of one cell. -/
theorem r_store_one {b off s : Nat} {cs cs' : List Value} {bt : TypeId} (ht : tSz c.P t = some (false, s)) (hs : s = 1) (hx : ev ρ x = some (.pointer (some ⟨b, off, none⟩))) (hy : ev ρ y = some v)
    (h1 : v.oneCell' = true) (hl : off < cs.length) (hcs : cs.set off v = cs') (hB : Upd B (.box b cs bt) (.box b cs' bt) B')
    (k : SL c ρ B' Φ Ψ ops rest Q) : SL c ρ B Φ Ψ ops (⟨none, .store t x y, ty, ps, af, none⟩ :: rest) Q :=
  r_store (vs := [v]) ht hx hy hB (by cases v <;> first | rfl | (simp [Value.oneCell'] at h1)) (by simp [hs]) (by simp [h1]) (by simp; omega) (by
    rw [← hcs]
    unfold splice
    rw [List.set_eq_take_append_cons_drop, if_pos hl]
    simp) k

/-! ### Addresses -/
theorem r_fieldAddr {b off f s : Nat} {ag : Bool} {i : Nat} (ht : tFd c.P t i = some (f, ag, s) := by exact tf rfl rfl) (hs0 : Nat.beq s 0 = false := by exact rfl) (hx : ev ρ x = some (.pointer (some ⟨b, off, none⟩)) := by exact rfl) (hb : Nat.blt d c.nt = true := by exact rfl)
    (k : SL c ((d, .pointer (some ⟨b, off + f, none⟩)) :: ρ) B Φ Ψ ops rest Q) : SL c ρ B Φ Ψ ops (⟨some d, .fieldAddr t x i, ty, ps, af, none⟩ :: rest) Q :=
  r_val rfl (fun _ => by simp) rfl hb (fun a w hs => by
    unfold tFd at ht
    split at ht
    · rename_i fs hu
      split at ht
      · rename_i fl hf
        split at ht
        · rename_i ag' s' hsz
          cases ht
          have hne : ¬ s = 0 := ne_of_beq hs0
          simp [execOp, hs.ev hx, Instr.fieldAt, run_underlying hu, hf, Instr.sureAddr, fieldPlace, run_sizeOf hsz, hne, addr_add]
        · cases ht
      · cases ht
    · cases ht) k
end

end Go.Proofs.YtjahiohlekdhoaaDoor
