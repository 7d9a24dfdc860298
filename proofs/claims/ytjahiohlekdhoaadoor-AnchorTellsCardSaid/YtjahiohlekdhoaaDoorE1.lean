/-
  The engine, part 1: resources (facts on memory that stay true while blocks that they do not touch change), owned blocks, symbolic states of an activation, and goals over them.
-/
import Derived.RangeFuncLeaves
import Derived.RangeFuncNested
import Derived.OrdersIn
import Derived.TacticsIn
import Derived.LoopNIn
import Derived.Laws.AppendOwn
import Derived.Laws.OwnMore
import Derived.Laws.MakeOwn
import Derived.Laws.CopyOwn
import Derived.Laws.Slices
import Derived.Laws.StructEq
import Derived.KernelRfl
namespace Go.Proofs.YtjahiohlekdhoaaDoor
open Go

/-! ### Resources -/
abbrev Av := Nat → Prop

/-- From w to w' no block changed but those of V; of the blocks that were there V' has none that V had not. -/
structure Kept (V V' : Av) (w w' : World) : Prop where
  size : w.heap.size ≤ w'.heap.size
  same : ∀ b, b < w.heap.size → ¬ V b → w'.heap[b]? = w.heap[b]?
  av : ∀ b, b < w.heap.size → V' b → V b

theorem Kept.refl (V : Av) (w : World) : Kept V V w w := ⟨Nat.le_refl _, fun _ _ _ => rfl, fun _ _ h => h⟩

/-- A fact on memory that speaks of no block of the avoided ones, and stays while only those change. -/
structure Res where
  p : Av → World → Prop
  st : ∀ {V V' : Av} {w w' : World}, Kept V V' w w' → p V w → p V' w'

/-- What another one's loop body owns: of which it may change the blocks of M, and which speaks of no block of U. -/
structure JR where
  p : Av → Av → World → Prop
  st : ∀ {M U U' : Av} {w w' : World}, Kept U U' w w' → p M U w → p M U' w'

def Res.pure (q : Prop) : Res := ⟨fun _ _ => q, fun _ h => h⟩
def Res.and (x y : Res) : Res := ⟨fun V w => x.p V w ∧ y.p V w, fun h k => ⟨x.st h k.1, y.st h k.2⟩⟩
def Res.ex {α : Type} (f : α → Res) : Res := ⟨fun V w => ∃ x, (f x).p V w, fun h ⟨x, k⟩ => ⟨x, (f x).st h k⟩⟩
def Res.all {α : Type} (l : List α) (f : α → Res) : Res := ⟨fun V w => ∀ x ∈ l, (f x).p V w, fun h k x hx => (f x).st h (k x hx)⟩

theorem block_lt {w : World} {a : Addr} {v : Value} (h : w.cell? a = some v) : a.block < w.heap.size := block_lt_of_cell h
theorem add_block (a : Addr) (n : Nat) : (a.add n).block = a.block := by unfold Addr.add; split <;> rfl
theorem add_zero (a : Addr) : a.add 0 = a := rfl
theorem add_add (a : Addr) (m n : Nat) : (a.add m).add n = a.add (m + n) := by
  unfold Addr.add
  by_cases hm : m = 0
  · subst hm; simp
  · by_cases hn : n = 0
    · subst hn; simp
    · simp [hm, hn, Nat.add_assoc]

/-- The cells from an address on hold these values. -/
def Res.mem (ba : Option Addr) (cs : List Value) : Res :=
  ⟨fun V w => ∀ i v, cs[i]? = some v → ∃ a, ba = some a ∧ ¬ V a.block ∧ w.cell? (a.add i) = some v,
   fun {V V' w w'} h k i v hv => by
    obtain ⟨a, ha, hn, hc⟩ := k i v hv
    have hl := block_lt hc
    rw [add_block] at hl
    refine ⟨a, ha, fun h' => hn (h.av _ hl h'), ?_⟩
    rw [World.cell?_of_block (w := w) (by rw [add_block]; exact h.same _ hl hn)]
    exact hc⟩

/-! ### Owned blocks -/
inductive Own where
  | box (b : Nat) (cs : List Value) (ty : TypeId)
  | row (v : Value) (n : Nat) (xs : List Value) (ty : TypeId) (sz : Nat)
  | mark (d : Nat)
  /-- a block that holds no cells -/
  | obj (b : Nat) (o : Obj)

def Own.blk : Own → Option Nat
  | .box b _ _ => some b
  | .row v _ _ _ _ => v.ownBlock
  | .mark d => some d
  | .obj b _ => some b

def Own.holds (w : World) : Own → Prop
  | .box b cs ty => w.heap[b]? = some (.cells cs.toArray ty (0, 0))
  | .row v n xs ty sz => w.ownsRow 0 ty sz v n xs
  | .mark d => w.heap[d]? = some (.deferred (some []))
  | .obj b o => w.heap[b]? = some o

theorem Own.lt {o : Own} {w : World} (h : o.holds w) {b : Nat} (hb : o.blk = some b) : b < w.heap.size := by
  cases o with
  | box b' cs ty => cases hb; exact (Array.getElem?_eq_some_iff.1 h).1
  | row v n xs ty sz => exact (World.ownsRow.lt h b hb).2
  | mark d => cases hb; exact (Array.getElem?_eq_some_iff.1 h).1
  | obj b' o => cases hb; exact (Array.getElem?_eq_some_iff.1 h).1

theorem Own.keep {o : Own} {w w' : World} (h : o.holds w) (hs : ∀ b, o.blk = some b → w'.heap[b]? = w.heap[b]?) : o.holds w' := by
  cases o with
  | box b cs ty => exact (hs b rfl).trans h
  | mark d => exact (hs d rfl).trans h
  | obj b o => exact (hs b rfl).trans h
  | row v n xs ty sz =>
    refine ⟨h.1, ?_⟩
    rcases h.2 with hn | ⟨g, cap, cur, rfl, hb, hg, rest⟩
    · exact .inl hn
    · exact .inr ⟨g, cap, cur, rfl, hb, (hs g rfl).trans hg, rest⟩

def blks (B : List Own) : Av := fun b => ∃ o ∈ B, o.blk = some b

def Apart (x y : Own) : Prop := ∀ b, x.blk = some b → y.blk ≠ some b

structure Sep (B : List Own) (w : World) : Prop where
  holds : ∀ o ∈ B, o.holds w
  apart : B.Pairwise Apart

theorem Sep.lt {B : List Own} {w : World} (h : Sep B w) {b : Nat} (hb : blks B b) : b < w.heap.size := by
  obtain ⟨o, ho, hb⟩ := hb
  exact Own.lt (h.holds o ho) hb

theorem Sep.keep {B : List Own} {w w' : World} (h : Sep B w) (hs : ∀ b, blks B b → w'.heap[b]? = w.heap[b]?) : Sep B w' :=
  ⟨fun o ho => Own.keep (h.holds o ho) fun b hb => hs b ⟨o, ho, hb⟩, h.apart⟩

def marks : List Own → List Deferred
  | [] => []
  | .mark d :: r => { target := .collected d, args := #[] } :: marks r
  | _ :: r => marks r

/-! ### Symbolic states -/
structure Ctx where
  P : Program
  r : Option Nat
  nt : Nat
  w0 : World
  /-- blocks of the caller's own, which nothing here may come to speak of -/
  X : Av
  /-- blocks that were there and may be changed -/
  K : Av
  /-- of these: those that a yield may change -/
  Y : Av
  G : Res

def lk : List (Nat × Value) → Nat → Option Value
  | [], _ => none
  | (k, v) :: r, t => bif Nat.beq k t then some v else lk r t

def ev (ρ : List (Nat × Value)) : Operand → Option Value
  | .tmp t => lk ρ t
  | .const v => some v
  | .global g => some (.pointer (some ⟨g, 0, none⟩))
  | .func f => some (.func (.func f) #[] #[])

def evs (ρ : List (Nat × Value)) : List Operand → Option (List Value)
  | [] => some []
  | x :: r => match ev ρ x, evs ρ r with
    | some v, some vs => some (v :: vs)
    | _, _ => none

/-- Nothing was told outside, and the outside is as it was. -/
def Io (w w' : World) : Prop := w'.os = w.os ∧ w'.output = w.output ∧ w'.tape = w.tape
theorem Io.refl (w : World) : Io w w := ⟨rfl, rfl, rfl⟩
theorem Io.trans {a b c : World} (h : Io a b) (k : Io b c) : Io a c := ⟨k.1.trans h.1, k.2.1.trans h.2.1, k.2.2.trans h.2.2⟩

/-- What memory is in a state. -/
structure MS (c : Ctx) (B : List Own) (Φ : List Res) (Ψ : List JR) (V U M : Av) (w : World) : Prop where
  vx : ∀ b, c.X b → V b
  vm : ∀ b, M b → V b
  vb : ∀ b, blks B b → V b
  vlt : ∀ b, V b → b < w.heap.size
  ub : ∀ b, blks B b → U b
  ult : ∀ b, U b → b < w.heap.size
  sep : Sep B w
  own : ∀ b, blks B b → (c.K b ∨ c.w0.heap.size ≤ b) ∧ ¬ c.X b ∧ ¬ M b
  phi : ∀ φ ∈ Φ, φ.p V w
  psi : ∀ ψ ∈ Ψ, ψ.p M U w
  g : c.G.p V w
  sz : c.w0.heap.size ≤ w.heap.size
  frame : ∀ b, b < c.w0.heap.size → ¬ c.K b → ¬ c.Y b → w.heap[b]? = c.w0.heap[b]?
  xlt : ∀ b, c.X b → b < c.w0.heap.size
  mo : ∀ b, M b → c.Y b ∨ c.w0.heap.size ≤ b
  io : Io c.w0 w

/-- The deferred calls of an activation: the marks; of a round: none. -/
def dfs (c : Ctx) (B : List Own) : List Deferred := match c.r with
  | none => marks B
  | some _ => []

theorem dfs_of {c : Ctx} {B B' : List Own} (h : marks B' = marks B) : dfs c B' = dfs c B := by unfold dfs; rw [h]

structure St (c : Ctx) (ρ : List (Nat × Value)) (B : List Own) (Φ : List Res) (Ψ : List JR) (a : Act) (w : World) : Prop where
  nt : a.tmps.size = c.nt
  reg : ∀ t v, lk ρ t = some v → a.tmps.getD t undef = v
  dfr : a.defers = dfs c B
  mem : ∃ V U M, MS c B Φ Ψ V U M w

abbrev Post := Exit → Act → World → Prop

def Fr (r : Option Nat) : Fence := { fn := fun _ => True, depth := none, alive := false, round := r }

def SW (c : Ctx) (ρ : List (Nat × Value)) (B : List Own) (Φ : List Res) (Ψ : List JR) (code : Code) (Q : Post) : Prop :=
  ∀ a w, St c ρ B Φ Ψ a w → code.wpIn (Fr c.r) 0 c.P Q a w
def SL (c : Ctx) (ρ : List (Nat × Value)) (B : List Own) (Φ : List Res) (Ψ : List JR) (ops : Array Oper) (l : List Oper) (Q : Post) : Prop :=
  ∀ a w, St c ρ B Φ Ψ a w → wpListIn (Fr c.r) 0 c.P ops Q l a w
def SP (c : Ctx) (ρ : List (Nat × Value)) (B : List Own) (Φ : List Res) (Ψ : List JR) (e : Exit) (Q : Post) : Prop :=
  ∀ a w, St c ρ B Φ Ψ a w → Q e a w

theorem St.ev {c : Ctx} {ρ : List (Nat × Value)} {B : List Own} {Φ : List Res} {Ψ : List JR} {a : Act} {w : World} (h : St c ρ B Φ Ψ a w) {x : Operand} {v : Value} (hx : ev ρ x = some v) : a.eval x = v := by
  cases x with
  | tmp t => exact h.reg t v hx
  | const u => cases hx; rfl
  | global g => cases hx; rfl
  | func f => cases hx; rfl

theorem St.evs {c : Ctx} {ρ : List (Nat × Value)} {B : List Own} {Φ : List Res} {Ψ : List JR} {a : Act} {w : World} (h : St c ρ B Φ Ψ a w) :
    ∀ {l : List Operand} {vs : List Value}, evs ρ l = some vs → l.map a.eval = vs
  | [], vs, hv => by cases hv; rfl
  | x :: r, vs, hv => by
    unfold Proofs.YtjahiohlekdhoaaDoor.evs at hv
    split at hv
    · rename_i v vs' h1 h2
      cases hv
      simp [h.ev h1, h.evs h2]
    · cases hv

theorem beq_false {k t : Nat} (h : ¬ k = t) : Nat.beq k t = false := by
  cases h' : Nat.beq k t
  · rfl
  · exact absurd (Nat.eq_of_beq_eq_true h') h
theorem ne_of_beq {k t : Nat} (h : Nat.beq k t = false) : ¬ k = t := fun e => by
  subst e; have := Nat.beq_refl k; rw [h] at this; cases this

theorem lk_cons (k : Nat) (v : Value) (r : List (Nat × Value)) (t : Nat) : lk ((k, v) :: r) t = if k = t then some v else lk r t := by
  show (bif Nat.beq k t then _ else _) = _
  by_cases h : k = t
  · subst h; simp
  · rw [beq_false h, if_neg h]; rfl

section
variable {c : Ctx} {ρ : List (Nat × Value)} {B : List Own} {Φ : List Res} {Ψ : List JR} {a : Act} {w : World}

theorem St.put (h : St c ρ B Φ Ψ a w) {d : Nat} (hd : Nat.blt d c.nt = true) (v : Value) : St c ((d, v) :: ρ) B Φ Ψ (a.put (some d) v) w := by
  have hd' : d < a.tmps.size := by rw [h.nt]; simpa [Nat.blt_eq] using hd
  refine ⟨by simp [Act.put, h.nt], fun t u ht => ?_, h.dfr, h.mem⟩
  rw [lk_cons] at ht
  by_cases e : d = t
  · subst e
    rw [if_pos rfl] at ht
    cases ht
    simp [Act.put, hd']
  · rw [if_neg e] at ht
    have := h.reg t u ht
    simp only [Act.put, Array.getD_eq_getD_getElem?] at this ⊢
    rw [Array.getElem?_setIfInBounds_ne e]
    exact this

theorem St.puto (h : St c ρ B Φ Ψ a w) (v : Value) : St c ρ B Φ Ψ (a.put none v) w := h

/-- The state with another memory, the registers as they were. -/
theorem St.mem' (h : St c ρ B Φ Ψ a w) {B' : List Own} {Φ' : List Res} {Ψ' : List JR} {w' : World} (hm : marks B' = marks B) {V U M : Av} (k : MS c B' Φ' Ψ' V U M w') : St c ρ B' Φ' Ψ' a w' :=
  ⟨h.nt, h.reg, h.dfr.trans (dfs_of hm).symm, V, U, M, k⟩
end

/-! ### The operations' common lemma -/
theorem op_value {r : Option Nat} {P : Program} {o : Oper} {a : Act} {w w' : World} {K : Act → World → Prop} {Q : Post} {v : Value} (hnd : ∀ c, o.op ≠ .defer c)
    (hrun : (execOp a.eval o).run P w = .ok (.value v) w') (hk : K (a.put o.dst v) w') : o.wpIn (Fr r) 0 P a w K Q := by
  refine ⟨fun _ _ => trivial, ?_⟩
  have : (o.semAt (Fr r).round a.eval) = execOp a.eval o := Oper.semAt_eq _ _ _ hnd
  rw [this, hrun]
  exact hk
theorem op_skip {r : Option Nat} {P : Program} {o : Oper} {a : Act} {w w' : World} {K : Act → World → Prop} {Q : Post} (hnd : ∀ c, o.op ≠ .defer c)
    (hrun : (execOp a.eval o).run P w = .ok .skip w') (hk : K (a.put o.dst undef) w') : o.wpIn (Fr r) 0 P a w K Q := by
  refine ⟨fun _ _ => trivial, ?_⟩
  have : (o.semAt (Fr r).round a.eval) = execOp a.eval o := Oper.semAt_eq _ _ _ hnd
  rw [this, hrun]
  exact hk

theorem sl_plain {c : Ctx} {ρ : List (Nat × Value)} {B : List Own} {Φ : List Res} {Ψ : List JR} {ops : Array Oper} {o : Oper} {rest : List Oper} {Q : Post} (hg : o.guard = none)
    (h : ∀ a w, St c ρ B Φ Ψ a w → ∀ K : Act → World → Prop, (∀ a' w', wpListIn (Fr c.r) 0 c.P ops Q rest a' w' → K a' w') → o.wpIn (Fr c.r) 0 c.P a w K Q) : SL c ρ B Φ Ψ ops (o :: rest) Q :=
  fun a w hs => wpListIn_plain hg fun K hK => h a w hs K hK

/-! ### Code -/
section
variable {c : Ctx} {ρ : List (Nat × Value)} {B : List Own} {Φ : List Res} {Ψ : List JR} {Q : Post}

def Then (c : Ctx) (y : Code) (Q : Post) : Post := Exit.then (fun a w => y.wpIn (Fr c.r) 0 c.P Q a w) Q

theorem sw_seq {x y : Code} (h : SW c ρ B Φ Ψ x (Then c y Q)) : SW c ρ B Φ Ψ (.seq x y) Q := fun a w hs => wpIn_seq (h a w hs)
theorem sw_skip (h : SP c ρ B Φ Ψ .normal Q) : SW c ρ B Φ Ψ .skip Q := fun a w hs => wpIn_skip (h a w hs)
theorem sw_label {l : Nat} (h : SP c ρ B Φ Ψ .normal Q) : SW c ρ B Φ Ψ (.label l) Q := fun a w hs => wpIn_label (h a w hs)
theorem sw_ret (h : SP c ρ B Φ Ψ .ret Q) : SW c ρ B Φ Ψ .ret Q := fun a w hs => wpIn_ret (h a w hs)
theorem sw_exit {i : Nat} (h : SP c ρ B Φ Ψ (.exit i) Q) : SW c ρ B Φ Ψ (.exit i) Q := fun a w hs => wpIn_exit (h a w hs)
theorem sw_region {i : Nat} {l : List Oper} (h : SL c ρ B Φ Ψ l.toArray l Q) : SW c ρ B Φ Ψ (.region i l.toArray false) Q := fun a w hs => wpIn_region_lit (h a w hs)
theorem sw_cond {x : Operand} {t : Bool} {y z : Code} (hx : ev ρ x = some (.bool t) := by exact rfl) (h1 : t = true → SW c ρ B Φ Ψ y Q) (h2 : t = false → SW c ρ B Φ Ψ z Q) : SW c ρ B Φ Ψ (.cond x y z) Q :=
  fun a w hs => wpIn_cond_split (hs.ev hx) (fun h => h1 h a w hs) (fun h => h2 h a w hs)
theorem sw_cond_t {x : Operand} {y z : Code} (hx : ev ρ x = some (.bool true)) (h1 : SW c ρ B Φ Ψ y Q) : SW c ρ B Φ Ψ (.cond x y z) Q :=
  fun a w hs => wpIn_cond_true (hs.ev hx) (h1 a w hs)
theorem sw_cond_f {x : Operand} {y z : Code} (hx : ev ρ x = some (.bool false)) (h1 : SW c ρ B Φ Ψ z Q) : SW c ρ B Φ Ψ (.cond x y z) Q :=
  fun a w hs => wpIn_cond_false (hs.ev hx) (h1 a w hs)
theorem sw_block {i : Nat} {x : Code} (h : SW c ρ B Φ Ψ x (Exit.inBlock i Q)) : SW c ρ B Φ Ψ (.block i x) Q := fun a w hs => wpIn_block (h a w hs)
theorem sl_nil {ops : Array Oper} (h : SP c ρ B Φ Ψ .normal Q) : SL c ρ B Φ Ψ ops [] Q := fun a w hs => wpListIn_nil (h a w hs)

theorem sp_then {y : Code} (h : SW c ρ B Φ Ψ y Q) : SP c ρ B Φ Ψ .normal (Then c y Q) := fun a w hs => h a w hs
theorem sp_then_ret {y : Code} (h : SP c ρ B Φ Ψ .ret Q) : SP c ρ B Φ Ψ .ret (Then c y Q) := fun a w hs => h a w hs
theorem sp_then_exit {i : Nat} {y : Code} (h : SP c ρ B Φ Ψ (.exit i) Q) : SP c ρ B Φ Ψ (.exit i) (Then c y Q) := fun a w hs => h a w hs
theorem sp_block {i : Nat} (h : SP c ρ B Φ Ψ .normal Q) : SP c ρ B Φ Ψ .normal (Exit.inBlock i Q) := fun a w hs => h a w hs
theorem sp_block_ret {i : Nat} (h : SP c ρ B Φ Ψ .ret Q) : SP c ρ B Φ Ψ .ret (Exit.inBlock i Q) := fun a w hs => h a w hs
theorem sp_block_exit {i : Nat} (h : SP c ρ B Φ Ψ .normal Q) : SP c ρ B Φ Ψ (.exit i) (Exit.inBlock i Q) := fun a w hs => by
  show (if i = i then _ else _)
  rw [if_pos rfl]; exact h a w hs
theorem sp_block_exit' {i j : Nat} (hne : Nat.beq j i = false := by exact rfl) (h : SP c ρ B Φ Ψ (.exit j) Q) : SP c ρ B Φ Ψ (.exit j) (Exit.inBlock i Q) := fun a w hs => by
  show (if j = i then _ else _)
  rw [if_neg (ne_of_beq hne)]; exact h a w hs

/-! ### Weakening; loops -/
theorem sw_weak {ρ' : List (Nat × Value)} {Φ' : List Res} {x : Code} (hρ : ∀ t v, lk ρ' t = some v → lk ρ t = some v) (hΦ : ∀ φ ∈ Φ', φ ∈ Φ) (h : SW c ρ' B Φ' Ψ x Q) : SW c ρ B Φ Ψ x Q :=
  fun a w hs => h a w ⟨hs.nt, fun t v ht => hs.reg t v (hρ t v ht), hs.dfr, by
    obtain ⟨V, U, M, m⟩ := hs.mem
    exact ⟨V, U, M, { m with phi := fun φ hφ => m.phi φ (hΦ φ hφ) }⟩⟩

/-- One state entails another one. -/
def Ent (c : Ctx) (ρ : List (Nat × Value)) (B : List Own) (Φ : List Res) (Ψ : List JR) (ρ' : List (Nat × Value)) (B' : List Own) (Φ' : List Res) (Ψ' : List JR) : Prop := ∀ a w, St c ρ B Φ Ψ a w → St c ρ' B' Φ' Ψ' a w

theorem lk_of_all {ρ ρ' : List (Nat × Value)} (h : ∀ p ∈ ρ', lk ρ p.1 = some p.2) : ∀ t v, lk ρ' t = some v → lk ρ t = some v := by
  induction ρ' with
  | nil => intro t v h'; cases h'
  | cons q r ih =>
    intro t v h'
    obtain ⟨k, u⟩ := q
    rw [lk_cons] at h'
    by_cases e : k = t
    · subst e; rw [if_pos rfl] at h'; cases h'; exact h (k, v) (.head _)
    · rw [if_neg e] at h'; exact ih (fun p hp => h p (.tail _ hp)) t v h'

theorem Ent.mk {ρ' : List (Nat × Value)} {Φ' : List Res} {Ψ' : List JR} (hρ : ∀ p ∈ ρ', lk ρ p.1 = some p.2) (hΦ : ∀ φ ∈ Φ', φ ∈ Φ) (hΨ : ∀ ψ ∈ Ψ', ψ ∈ Ψ) : Ent c ρ B Φ Ψ ρ' B Φ' Ψ' :=
  fun _ _ hs => ⟨hs.nt, fun t v ht => hs.reg t v (lk_of_all hρ t v ht), hs.dfr, by
    obtain ⟨V, U, M, m⟩ := hs.mem
    exact ⟨V, U, M, { m with phi := fun φ hφ => m.phi φ (hΦ φ hφ), psi := fun φ hφ => m.psi φ (hΨ φ hφ) }⟩⟩

/-- The post of a loop's body. -/
def LoopQ (c : Ctx) {ι : Type} (ρ : ι → List (Nat × Value)) (B : ι → List Own) (Φ : ι → List Res) (Ψ : ι → List JR) (μ : ι → Nat) (i : ι) (Q : Post) : Post :=
  Exit.then (fun a w => ∃ j, μ j < μ i ∧ St c (ρ j) (B j) (Φ j) (Ψ j) a w) Q

theorem sp_loop {ι : Type} {ρ' : ι → List (Nat × Value)} {B' : ι → List Own} {Φ' : ι → List Res} {Ψ' : ι → List JR} {μ : ι → Nat} {i : ι} (j : ι) (hlt : μ j < μ i) (he : Ent c ρ B Φ Ψ (ρ' j) (B' j) (Φ' j) (Ψ' j)) :
    SP c ρ B Φ Ψ .normal (LoopQ c ρ' B' Φ' Ψ' μ i Q) := fun a w hs => ⟨j, hlt, he a w hs⟩
theorem sp_loop_ret {ι : Type} {ρ' : ι → List (Nat × Value)} {B' : ι → List Own} {Φ' : ι → List Res} {Ψ' : ι → List JR} {μ : ι → Nat} {i : ι} (h : SP c ρ B Φ Ψ .ret Q) : SP c ρ B Φ Ψ .ret (LoopQ c ρ' B' Φ' Ψ' μ i Q) := fun a w hs => h a w hs
theorem sp_loop_exit {ι : Type} {ρ' : ι → List (Nat × Value)} {B' : ι → List Own} {Φ' : ι → List Res} {Ψ' : ι → List JR} {μ : ι → Nat} {i : ι} {k : Nat} (h : SP c ρ B Φ Ψ (.exit k) Q) : SP c ρ B Φ Ψ (.exit k) (LoopQ c ρ' B' Φ' Ψ' μ i Q) := fun a w hs => h a w hs

/-- A loop: a family of states, a measure. -/
theorem sw_loop {ι : Type} (ρ' : ι → List (Nat × Value)) (B' : ι → List Own) (Φ' : ι → List Res) (Ψ' : ι → List JR) (μ : ι → Nat) (i₀ : ι) {x : Code} (h0 : Ent c ρ B Φ Ψ (ρ' i₀) (B' i₀) (Φ' i₀) (Ψ' i₀))
    (h : ∀ i, SW c (ρ' i) (B' i) (Φ' i) (Ψ' i) x (LoopQ c ρ' B' Φ' Ψ' μ i Q)) : SW c ρ B Φ Ψ (.loop x) Q := by
  have key : ∀ n i a w, μ i < n → St c (ρ' i) (B' i) (Φ' i) (Ψ' i) a w → Code.roundsIn (Fr c.r) 0 c.P x Q n a w := by
    intro n
    induction n with
    | zero => intro i a w hn _; omega
    | succ n ih =>
      intro i a w hn hst
      rw [roundsIn_succ]
      refine wpIn_mono (h i a w hst) ?_
      intro e a' w' q
      cases e with
      | normal => obtain ⟨j, hlt, hj⟩ := q; exact ih j a' w' (by omega) hj
      | exit k => exact q
      | goto l => exact q
      | ret => exact q
      | panic ch => exact q
      | outgrown => exact q
  exact fun a w hs => wpIn_loop_rounds (μ i₀ + 1) (key _ i₀ a w (by omega) (h0 a w hs))
end

end Go.Proofs.YtjahiohlekdhoaaDoor
