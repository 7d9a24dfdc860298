/-
  The engine, part 1: resources (facts on memory that stay true while blocks that they do not touch change), owned blocks, symbolic states of an activation, and goals over them.
  The engine, part 2: the rules for operations: moves, arithmetic, own variables in memory.
  The engine, part 3: contracts; calls; a function's entry and its ends.
  The engine, part 4: slices: lengths, elements, cuts, what is made, appended, copied; closures.
  The engine, part 5: slices that are made, appended to, copied; closures; bits; strings out of bytes.
  The engine, part 6: iterators: their contracts, a yield, a range over a function.
-/
import Derived.RangeFuncLeaves
import Derived.RangeFuncNested
import Derived.OrdersIn
import Derived.TacticsIn
import Derived.LoopNIn
import Derived.Laws.AppendOwn
import Derived.Laws.OwnMore
import Derived.Laws.MakeOwn
import Derived.Laws.CopyOwn
import Derived.Laws.Slices
import Derived.Laws.StructEq
import Derived.KernelRfl
import Derived.Lib.ConvBytes
import Derived.Shelf.Abstract
namespace Go.Proofs.YtjahiohlekdhoaaDoor
open Go

/-! ### Resources -/
abbrev Av := Nat → Prop

/-- From w to w' no block changed but those of V; of the blocks that were there V' has none that V had not. -/
structure Kept (V V' : Av) (w w' : World) : Prop where
  size : w.heap.size ≤ w'.heap.size
  same : ∀ b, b < w.heap.size → ¬ V b → w'.heap[b]? = w.heap[b]?
  av : ∀ b, b < w.heap.size → V' b → V b

theorem Kept.refl (V : Av) (w : World) : Kept V V w w := ⟨Nat.le_refl _, fun _ _ _ => rfl, fun _ _ h => h⟩

/-- A fact on memory that speaks of no block of the avoided ones, and stays while only those change. -/
structure Res where
  p : Av → World → Prop
  st : ∀ {V V' : Av} {w w' : World}, Kept V V' w w' → p V w → p V' w'

/-- What another one's loop body owns: of which it may change the blocks of M, and which speaks of no block of U. -/
structure JR where
  p : Av → Av → World → Prop
  st : ∀ {M U U' : Av} {w w' : World}, Kept U U' w w' → p M U w → p M U' w'

def Res.pure (q : Prop) : Res := ⟨fun _ _ => q, fun _ h => h⟩
def Res.and (x y : Res) : Res := ⟨fun V w => x.p V w ∧ y.p V w, fun h k => ⟨x.st h k.1, y.st h k.2⟩⟩
def Res.ex {α : Type} (f : α → Res) : Res := ⟨fun V w => ∃ x, (f x).p V w, fun h ⟨x, k⟩ => ⟨x, (f x).st h k⟩⟩
def Res.all {α : Type} (l : List α) (f : α → Res) : Res := ⟨fun V w => ∀ x ∈ l, (f x).p V w, fun h k x hx => (f x).st h (k x hx)⟩

theorem block_lt {w : World} {a : Addr} {v : Value} (h : w.cell? a = some v) : a.block < w.heap.size := block_lt_of_cell h
theorem add_block (a : Addr) (n : Nat) : (a.add n).block = a.block := by unfold Addr.add; split <;> rfl
theorem add_zero (a : Addr) : a.add 0 = a := rfl
theorem add_add (a : Addr) (m n : Nat) : (a.add m).add n = a.add (m + n) := by
  unfold Addr.add
  by_cases hm : m = 0
  · subst hm; simp
  · by_cases hn : n = 0
    · subst hn; simp
    · simp [hm, hn, Nat.add_assoc]

/-- The cells from an address on hold these values. -/
def Res.mem (ba : Option Addr) (cs : List Value) : Res :=
  ⟨fun V w => ∀ i v, cs[i]? = some v → ∃ a, ba = some a ∧ ¬ V a.block ∧ w.cell? (a.add i) = some v,
   fun {V V' w w'} h k i v hv => by
    obtain ⟨a, ha, hn, hc⟩ := k i v hv
    have hl := block_lt hc
    rw [add_block] at hl
    refine ⟨a, ha, fun h' => hn (h.av _ hl h'), ?_⟩
    rw [World.cell?_of_block (w := w) (by rw [add_block]; exact h.same _ hl hn)]
    exact hc⟩

/-! ### Owned blocks -/
inductive Own where
  | box (b : Nat) (cs : List Value) (ty : TypeId)
  | row (v : Value) (n : Nat) (xs : List Value) (ty : TypeId) (sz : Nat)
  | mark (d : Nat)
  /-- a block that holds no cells -/
  | obj (b : Nat) (o : Obj)

def Own.blk : Own → Option Nat
  | .box b _ _ => some b
  | .row v _ _ _ _ => v.ownBlock
  | .mark d => some d
  | .obj b _ => some b

def Own.holds (w : World) : Own → Prop
  | .box b cs ty => w.heap[b]? = some (.cells cs.toArray ty (0, 0))
  | .row v n xs ty sz => w.ownsRow 0 ty sz v n xs
  | .mark d => w.heap[d]? = some (.deferred (some []))
  | .obj b o => w.heap[b]? = some o

theorem Own.lt {o : Own} {w : World} (h : o.holds w) {b : Nat} (hb : o.blk = some b) : b < w.heap.size := by
  cases o with
  | box b' cs ty => cases hb; exact (Array.getElem?_eq_some_iff.1 h).1
  | row v n xs ty sz => exact (World.ownsRow.lt h b hb).2
  | mark d => cases hb; exact (Array.getElem?_eq_some_iff.1 h).1
  | obj b' o => cases hb; exact (Array.getElem?_eq_some_iff.1 h).1

theorem Own.keep {o : Own} {w w' : World} (h : o.holds w) (hs : ∀ b, o.blk = some b → w'.heap[b]? = w.heap[b]?) : o.holds w' := by
  cases o with
  | box b cs ty => exact (hs b rfl).trans h
  | mark d => exact (hs d rfl).trans h
  | obj b o => exact (hs b rfl).trans h
  | row v n xs ty sz =>
    refine ⟨h.1, ?_⟩
    rcases h.2 with hn | ⟨g, cap, cur, rfl, hb, hg, rest⟩
    · exact .inl hn
    · exact .inr ⟨g, cap, cur, rfl, hb, (hs g rfl).trans hg, rest⟩

def blks (B : List Own) : Av := fun b => ∃ o ∈ B, o.blk = some b

def Apart (x y : Own) : Prop := ∀ b, x.blk = some b → y.blk ≠ some b

structure Sep (B : List Own) (w : World) : Prop where
  holds : ∀ o ∈ B, o.holds w
  apart : B.Pairwise Apart

theorem Sep.lt {B : List Own} {w : World} (h : Sep B w) {b : Nat} (hb : blks B b) : b < w.heap.size := by
  obtain ⟨o, ho, hb⟩ := hb
  exact Own.lt (h.holds o ho) hb

theorem Sep.keep {B : List Own} {w w' : World} (h : Sep B w) (hs : ∀ b, blks B b → w'.heap[b]? = w.heap[b]?) : Sep B w' :=
  ⟨fun o ho => Own.keep (h.holds o ho) fun b hb => hs b ⟨o, ho, hb⟩, h.apart⟩

def marks : List Own → List Deferred
  | [] => []
  | .mark d :: r => { target := .collected d, args := #[] } :: marks r
  | _ :: r => marks r

/-! ### Symbolic states -/
structure Ctx where
  P : Program
  r : Option Nat
  nt : Nat
  w0 : World
  /-- blocks of the caller's own, which nothing here may come to speak of -/
  X : Av
  /-- blocks that were there and may be changed -/
  K : Av
  /-- of these: those that a yield may change -/
  Y : Av
  G : Res

def lk : List (Nat × Value) → Nat → Option Value
  | [], _ => none
  | (k, v) :: r, t => bif Nat.beq k t then some v else lk r t

def ev (ρ : List (Nat × Value)) : Operand → Option Value
  | .tmp t => lk ρ t
  | .const v => some v
  | .global g => some (.pointer (some ⟨g, 0, none⟩))
  | .func f => some (.func (.func f) #[] #[])

def evs (ρ : List (Nat × Value)) : List Operand → Option (List Value)
  | [] => some []
  | x :: r => match ev ρ x, evs ρ r with
    | some v, some vs => some (v :: vs)
    | _, _ => none

/-- Nothing was told outside, and the outside is as it was. -/
def Io (w w' : World) : Prop := w'.os = w.os ∧ w'.output = w.output ∧ w'.tape = w.tape
theorem Io.refl (w : World) : Io w w := ⟨rfl, rfl, rfl⟩
theorem Io.trans {a b c : World} (h : Io a b) (k : Io b c) : Io a c := ⟨k.1.trans h.1, k.2.1.trans h.2.1, k.2.2.trans h.2.2⟩

/-- What memory is in a state. -/
structure MS (c : Ctx) (B : List Own) (Φ : List Res) (Ψ : List JR) (V U M : Av) (w : World) : Prop where
  vx : ∀ b, c.X b → V b
  vm : ∀ b, M b → V b
  vb : ∀ b, blks B b → V b
  vlt : ∀ b, V b → b < w.heap.size
  ub : ∀ b, blks B b → U b
  ult : ∀ b, U b → b < w.heap.size
  sep : Sep B w
  own : ∀ b, blks B b → (c.K b ∨ c.w0.heap.size ≤ b) ∧ ¬ c.X b ∧ ¬ M b
  phi : ∀ φ ∈ Φ, φ.p V w
  psi : ∀ ψ ∈ Ψ, ψ.p M U w
  g : c.G.p V w
  sz : c.w0.heap.size ≤ w.heap.size
  frame : ∀ b, b < c.w0.heap.size → ¬ c.K b → ¬ c.Y b → w.heap[b]? = c.w0.heap[b]?
  xlt : ∀ b, c.X b → b < c.w0.heap.size
  mo : ∀ b, M b → c.Y b ∨ c.w0.heap.size ≤ b
  io : Io c.w0 w

/-- The deferred calls of an activation: the marks; of a round: none. -/
def dfs (c : Ctx) (B : List Own) : List Deferred := match c.r with
  | none => marks B
  | some _ => []

theorem dfs_of {c : Ctx} {B B' : List Own} (h : marks B' = marks B) : dfs c B' = dfs c B := by unfold dfs; rw [h]

structure St (c : Ctx) (ρ : List (Nat × Value)) (B : List Own) (Φ : List Res) (Ψ : List JR) (a : Act) (w : World) : Prop where
  nt : a.tmps.size = c.nt
  reg : ∀ t v, lk ρ t = some v → a.tmps.getD t undef = v
  dfr : a.defers = dfs c B
  mem : ∃ V U M, MS c B Φ Ψ V U M w

abbrev Post := Exit → Act → World → Prop

def Fr (r : Option Nat) : Fence := { fn := fun _ => True, depth := none, alive := false, round := r }

def SW (c : Ctx) (ρ : List (Nat × Value)) (B : List Own) (Φ : List Res) (Ψ : List JR) (code : Code) (Q : Post) : Prop :=
  ∀ a w, St c ρ B Φ Ψ a w → code.wpIn (Fr c.r) 0 c.P Q a w
def SL (c : Ctx) (ρ : List (Nat × Value)) (B : List Own) (Φ : List Res) (Ψ : List JR) (ops : Array Oper) (l : List Oper) (Q : Post) : Prop :=
  ∀ a w, St c ρ B Φ Ψ a w → wpListIn (Fr c.r) 0 c.P ops Q l a w
def SP (c : Ctx) (ρ : List (Nat × Value)) (B : List Own) (Φ : List Res) (Ψ : List JR) (e : Exit) (Q : Post) : Prop :=
  ∀ a w, St c ρ B Φ Ψ a w → Q e a w

theorem St.ev {c : Ctx} {ρ : List (Nat × Value)} {B : List Own} {Φ : List Res} {Ψ : List JR} {a : Act} {w : World} (h : St c ρ B Φ Ψ a w) {x : Operand} {v : Value} (hx : ev ρ x = some v) : a.eval x = v := by
  cases x with
  | tmp t => exact h.reg t v hx
  | const u => cases hx; rfl
  | global g => cases hx; rfl
  | func f => cases hx; rfl

theorem St.evs {c : Ctx} {ρ : List (Nat × Value)} {B : List Own} {Φ : List Res} {Ψ : List JR} {a : Act} {w : World} (h : St c ρ B Φ Ψ a w) :
    ∀ {l : List Operand} {vs : List Value}, evs ρ l = some vs → l.map a.eval = vs
  | [], vs, hv => by cases hv; rfl
  | x :: r, vs, hv => by
    unfold Proofs.YtjahiohlekdhoaaDoor.evs at hv
    split at hv
    · rename_i v vs' h1 h2
      cases hv
      simp [h.ev h1, h.evs h2]
    · cases hv

theorem beq_false {k t : Nat} (h : ¬ k = t) : Nat.beq k t = false := by
  cases h' : Nat.beq k t
  · rfl
  · exact absurd (Nat.eq_of_beq_eq_true h') h
theorem ne_of_beq {k t : Nat} (h : Nat.beq k t = false) : ¬ k = t := fun e => by
  subst e; have := Nat.beq_refl k; rw [h] at this; cases this

theorem lk_cons (k : Nat) (v : Value) (r : List (Nat × Value)) (t : Nat) : lk ((k, v) :: r) t = if k = t then some v else lk r t := by
  show (bif Nat.beq k t then _ else _) = _
  by_cases h : k = t
  · subst h; simp
  · rw [beq_false h, if_neg h]; rfl

section
variable {c : Ctx} {ρ : List (Nat × Value)} {B : List Own} {Φ : List Res} {Ψ : List JR} {a : Act} {w : World}

theorem St.put (h : St c ρ B Φ Ψ a w) {d : Nat} (hd : Nat.blt d c.nt = true) (v : Value) : St c ((d, v) :: ρ) B Φ Ψ (a.put (some d) v) w := by
  have hd' : d < a.tmps.size := by rw [h.nt]; simpa [Nat.blt_eq] using hd
  refine ⟨by simp [Act.put, h.nt], fun t u ht => ?_, h.dfr, h.mem⟩
  rw [lk_cons] at ht
  by_cases e : d = t
  · subst e
    rw [if_pos rfl] at ht
    cases ht
    simp [Act.put, hd']
  · rw [if_neg e] at ht
    have := h.reg t u ht
    simp only [Act.put, Array.getD_eq_getD_getElem?] at this ⊢
    rw [Array.getElem?_setIfInBounds_ne e]
    exact this

theorem St.puto (h : St c ρ B Φ Ψ a w) (v : Value) : St c ρ B Φ Ψ (a.put none v) w := h

/-- The state with another memory, the registers as they were. -/
theorem St.mem' (h : St c ρ B Φ Ψ a w) {B' : List Own} {Φ' : List Res} {Ψ' : List JR} {w' : World} (hm : marks B' = marks B) {V U M : Av} (k : MS c B' Φ' Ψ' V U M w') : St c ρ B' Φ' Ψ' a w' :=
  ⟨h.nt, h.reg, h.dfr.trans (dfs_of hm).symm, V, U, M, k⟩
end

/-! ### The operations' common lemma -/
theorem op_value {r : Option Nat} {P : Program} {o : Oper} {a : Act} {w w' : World} {K : Act → World → Prop} {Q : Post} {v : Value} (hnd : ∀ c, o.op ≠ .defer c)
    (hrun : (execOp a.eval o).run P w = .ok (.value v) w') (hk : K (a.put o.dst v) w') : o.wpIn (Fr r) 0 P a w K Q := by
  refine ⟨fun _ _ => trivial, ?_⟩
  have : (o.semAt (Fr r).round a.eval) = execOp a.eval o := Oper.semAt_eq _ _ _ hnd
  rw [this, hrun]
  exact hk
theorem op_skip {r : Option Nat} {P : Program} {o : Oper} {a : Act} {w w' : World} {K : Act → World → Prop} {Q : Post} (hnd : ∀ c, o.op ≠ .defer c)
    (hrun : (execOp a.eval o).run P w = .ok .skip w') (hk : K (a.put o.dst undef) w') : o.wpIn (Fr r) 0 P a w K Q := by
  refine ⟨fun _ _ => trivial, ?_⟩
  have : (o.semAt (Fr r).round a.eval) = execOp a.eval o := Oper.semAt_eq _ _ _ hnd
  rw [this, hrun]
  exact hk

theorem sl_plain {c : Ctx} {ρ : List (Nat × Value)} {B : List Own} {Φ : List Res} {Ψ : List JR} {ops : Array Oper} {o : Oper} {rest : List Oper} {Q : Post} (hg : o.guard = none)
    (h : ∀ a w, St c ρ B Φ Ψ a w → ∀ K : Act → World → Prop, (∀ a' w', wpListIn (Fr c.r) 0 c.P ops Q rest a' w' → K a' w') → o.wpIn (Fr c.r) 0 c.P a w K Q) : SL c ρ B Φ Ψ ops (o :: rest) Q :=
  fun a w hs => wpListIn_plain hg fun K hK => h a w hs K hK

/-! ### Code -/
section
variable {c : Ctx} {ρ : List (Nat × Value)} {B : List Own} {Φ : List Res} {Ψ : List JR} {Q : Post}

def Then (c : Ctx) (y : Code) (Q : Post) : Post := Exit.then (fun a w => y.wpIn (Fr c.r) 0 c.P Q a w) Q

theorem sw_seq {x y : Code} (h : SW c ρ B Φ Ψ x (Then c y Q)) : SW c ρ B Φ Ψ (.seq x y) Q := fun a w hs => wpIn_seq (h a w hs)
theorem sw_skip (h : SP c ρ B Φ Ψ .normal Q) : SW c ρ B Φ Ψ .skip Q := fun a w hs => wpIn_skip (h a w hs)
theorem sw_label {l : Nat} (h : SP c ρ B Φ Ψ .normal Q) : SW c ρ B Φ Ψ (.label l) Q := fun a w hs => wpIn_label (h a w hs)
theorem sw_ret (h : SP c ρ B Φ Ψ .ret Q) : SW c ρ B Φ Ψ .ret Q := fun a w hs => wpIn_ret (h a w hs)
theorem sw_exit {i : Nat} (h : SP c ρ B Φ Ψ (.exit i) Q) : SW c ρ B Φ Ψ (.exit i) Q := fun a w hs => wpIn_exit (h a w hs)
theorem sw_region {i : Nat} {l : List Oper} (h : SL c ρ B Φ Ψ l.toArray l Q) : SW c ρ B Φ Ψ (.region i l.toArray false) Q := fun a w hs => wpIn_region_lit (h a w hs)
theorem sw_cond {x : Operand} {t : Bool} {y z : Code} (hx : ev ρ x = some (.bool t) := by exact rfl) (h1 : t = true → SW c ρ B Φ Ψ y Q) (h2 : t = false → SW c ρ B Φ Ψ z Q) : SW c ρ B Φ Ψ (.cond x y z) Q :=
  fun a w hs => wpIn_cond_split (hs.ev hx) (fun h => h1 h a w hs) (fun h => h2 h a w hs)
theorem sw_cond_t {x : Operand} {y z : Code} (hx : ev ρ x = some (.bool true)) (h1 : SW c ρ B Φ Ψ y Q) : SW c ρ B Φ Ψ (.cond x y z) Q :=
  fun a w hs => wpIn_cond_true (hs.ev hx) (h1 a w hs)
theorem sw_cond_f {x : Operand} {y z : Code} (hx : ev ρ x = some (.bool false)) (h1 : SW c ρ B Φ Ψ z Q) : SW c ρ B Φ Ψ (.cond x y z) Q :=
  fun a w hs => wpIn_cond_false (hs.ev hx) (h1 a w hs)
theorem sw_block {i : Nat} {x : Code} (h : SW c ρ B Φ Ψ x (Exit.inBlock i Q)) : SW c ρ B Φ Ψ (.block i x) Q := fun a w hs => wpIn_block (h a w hs)
theorem sl_nil {ops : Array Oper} (h : SP c ρ B Φ Ψ .normal Q) : SL c ρ B Φ Ψ ops [] Q := fun a w hs => wpListIn_nil (h a w hs)

theorem sp_then {y : Code} (h : SW c ρ B Φ Ψ y Q) : SP c ρ B Φ Ψ .normal (Then c y Q) := fun a w hs => h a w hs
theorem sp_then_ret {y : Code} (h : SP c ρ B Φ Ψ .ret Q) : SP c ρ B Φ Ψ .ret (Then c y Q) := fun a w hs => h a w hs
theorem sp_then_exit {i : Nat} {y : Code} (h : SP c ρ B Φ Ψ (.exit i) Q) : SP c ρ B Φ Ψ (.exit i) (Then c y Q) := fun a w hs => h a w hs
theorem sp_block {i : Nat} (h : SP c ρ B Φ Ψ .normal Q) : SP c ρ B Φ Ψ .normal (Exit.inBlock i Q) := fun a w hs => h a w hs
theorem sp_block_ret {i : Nat} (h : SP c ρ B Φ Ψ .ret Q) : SP c ρ B Φ Ψ .ret (Exit.inBlock i Q) := fun a w hs => h a w hs
theorem sp_block_exit {i : Nat} (h : SP c ρ B Φ Ψ .normal Q) : SP c ρ B Φ Ψ (.exit i) (Exit.inBlock i Q) := fun a w hs => by
  show (if i = i then _ else _)
  rw [if_pos rfl]; exact h a w hs
theorem sp_block_exit' {i j : Nat} (hne : Nat.beq j i = false := by exact rfl) (h : SP c ρ B Φ Ψ (.exit j) Q) : SP c ρ B Φ Ψ (.exit j) (Exit.inBlock i Q) := fun a w hs => by
  show (if j = i then _ else _)
  rw [if_neg (ne_of_beq hne)]; exact h a w hs

/-! ### Weakening; loops -/
theorem sw_weak {ρ' : List (Nat × Value)} {Φ' : List Res} {x : Code} (hρ : ∀ t v, lk ρ' t = some v → lk ρ t = some v) (hΦ : ∀ φ ∈ Φ', φ ∈ Φ) (h : SW c ρ' B Φ' Ψ x Q) : SW c ρ B Φ Ψ x Q :=
  fun a w hs => h a w ⟨hs.nt, fun t v ht => hs.reg t v (hρ t v ht), hs.dfr, by
    obtain ⟨V, U, M, m⟩ := hs.mem
    exact ⟨V, U, M, { m with phi := fun φ hφ => m.phi φ (hΦ φ hφ) }⟩⟩

/-- One state entails another one. -/
def Ent (c : Ctx) (ρ : List (Nat × Value)) (B : List Own) (Φ : List Res) (Ψ : List JR) (ρ' : List (Nat × Value)) (B' : List Own) (Φ' : List Res) (Ψ' : List JR) : Prop := ∀ a w, St c ρ B Φ Ψ a w → St c ρ' B' Φ' Ψ' a w

theorem lk_of_all {ρ ρ' : List (Nat × Value)} (h : ∀ p ∈ ρ', lk ρ p.1 = some p.2) : ∀ t v, lk ρ' t = some v → lk ρ t = some v := by
  induction ρ' with
  | nil => intro t v h'; cases h'
  | cons q r ih =>
    intro t v h'
    obtain ⟨k, u⟩ := q
    rw [lk_cons] at h'
    by_cases e : k = t
    · subst e; rw [if_pos rfl] at h'; cases h'; exact h (k, v) (.head _)
    · rw [if_neg e] at h'; exact ih (fun p hp => h p (.tail _ hp)) t v h'

theorem Ent.mk {ρ' : List (Nat × Value)} {Φ' : List Res} {Ψ' : List JR} (hρ : ∀ p ∈ ρ', lk ρ p.1 = some p.2) (hΦ : ∀ φ ∈ Φ', φ ∈ Φ) (hΨ : ∀ ψ ∈ Ψ', ψ ∈ Ψ) : Ent c ρ B Φ Ψ ρ' B Φ' Ψ' :=
  fun _ _ hs => ⟨hs.nt, fun t v ht => hs.reg t v (lk_of_all hρ t v ht), hs.dfr, by
    obtain ⟨V, U, M, m⟩ := hs.mem
    exact ⟨V, U, M, { m with phi := fun φ hφ => m.phi φ (hΦ φ hφ), psi := fun φ hφ => m.psi φ (hΨ φ hφ) }⟩⟩

/-- The post of a loop's body. -/
def LoopQ (c : Ctx) {ι : Type} (ρ : ι → List (Nat × Value)) (B : ι → List Own) (Φ : ι → List Res) (Ψ : ι → List JR) (μ : ι → Nat) (i : ι) (Q : Post) : Post :=
  Exit.then (fun a w => ∃ j, μ j < μ i ∧ St c (ρ j) (B j) (Φ j) (Ψ j) a w) Q

theorem sp_loop {ι : Type} {ρ' : ι → List (Nat × Value)} {B' : ι → List Own} {Φ' : ι → List Res} {Ψ' : ι → List JR} {μ : ι → Nat} {i : ι} (j : ι) (hlt : μ j < μ i) (he : Ent c ρ B Φ Ψ (ρ' j) (B' j) (Φ' j) (Ψ' j)) :
    SP c ρ B Φ Ψ .normal (LoopQ c ρ' B' Φ' Ψ' μ i Q) := fun a w hs => ⟨j, hlt, he a w hs⟩
theorem sp_loop_ret {ι : Type} {ρ' : ι → List (Nat × Value)} {B' : ι → List Own} {Φ' : ι → List Res} {Ψ' : ι → List JR} {μ : ι → Nat} {i : ι} (h : SP c ρ B Φ Ψ .ret Q) : SP c ρ B Φ Ψ .ret (LoopQ c ρ' B' Φ' Ψ' μ i Q) := fun a w hs => h a w hs
theorem sp_loop_exit {ι : Type} {ρ' : ι → List (Nat × Value)} {B' : ι → List Own} {Φ' : ι → List Res} {Ψ' : ι → List JR} {μ : ι → Nat} {i : ι} {k : Nat} (h : SP c ρ B Φ Ψ (.exit k) Q) : SP c ρ B Φ Ψ (.exit k) (LoopQ c ρ' B' Φ' Ψ' μ i Q) := fun a w hs => h a w hs

/-- A loop: a family of states, a measure. -/
theorem sw_loop {ι : Type} (ρ' : ι → List (Nat × Value)) (B' : ι → List Own) (Φ' : ι → List Res) (Ψ' : ι → List JR) (μ : ι → Nat) (i₀ : ι) {x : Code} (h0 : Ent c ρ B Φ Ψ (ρ' i₀) (B' i₀) (Φ' i₀) (Ψ' i₀))
    (h : ∀ i, SW c (ρ' i) (B' i) (Φ' i) (Ψ' i) x (LoopQ c ρ' B' Φ' Ψ' μ i Q)) : SW c ρ B Φ Ψ (.loop x) Q := by
  have key : ∀ n i a w, μ i < n → St c (ρ' i) (B' i) (Φ' i) (Ψ' i) a w → Code.roundsIn (Fr c.r) 0 c.P x Q n a w := by
    intro n
    induction n with
    | zero => intro i a w hn _; omega
    | succ n ih =>
      intro i a w hn hst
      rw [roundsIn_succ]
      refine wpIn_mono (h i a w hst) ?_
      intro e a' w' q
      cases e with
      | normal => obtain ⟨j, hlt, hj⟩ := q; exact ih j a' w' (by omega) hj
      | exit k => exact q
      | goto l => exact q
      | ret => exact q
      | panic ch => exact q
      | outgrown => exact q
  exact fun a w hs => wpIn_loop_rounds (μ i₀ + 1) (key _ i₀ a w (by omega) (h0 a w hs))
end

end Go.Proofs.YtjahiohlekdhoaaDoor

namespace Go.Proofs.YtjahiohlekdhoaaDoor
open Go

/-! ### Types, as a table tells them -/
def tSz (P : Program) (t : TypeId) : Option (Bool × Nat) :=
  match P.underlying t, P.info? t with
  | some d, some i => some ((match d with | .struct _ | .array _ _ => true | _ => false), i.size)
  | _, _ => none
/-- A slice's element: its type, cells, bytes. -/
def tSl (P : Program) (t : TypeId) : Option (TypeId × Nat × Nat) :=
  match P.underlying t with
  | some (.slice e) => match P.info? e with
    | some i => some (e, i.size, i.bytes)
    | none => none
  | _ => none
/-- An array's length, its element's type, the element's cells. -/
def tAr (P : Program) (t : TypeId) : Option (Nat × TypeId × Nat) :=
  match P.underlying t with
  | some (.array n e) => match P.info? e with
    | some i => some (n, e, i.size)
    | none => none
  | _ => none
/-- A struct's field: its offset, its cells, whether it is a struct or an array. -/
def tFd (P : Program) (t : TypeId) (i : Nat) : Option (Nat × Bool × Nat) :=
  match P.underlying t with
  | some (.struct fs) => match fs[i]? with
    | some f => match tSz P f.type with
      | some (ag, s) => some (f.offset, ag, s)
      | none => none
    | none => none
  | _ => none
def tZ (P : Program) (t : TypeId) : Option Value := (P.info? t).bind (·.zero)
def tInt (P : Program) (t : TypeId) : Option IntKind := match P.underlying t with | some (.int k) => some k | _ => none

section runs
variable {P : Program}

theorem tSz_inv {t : TypeId} {ag : Bool} {s : Nat} (h : tSz P t = some (ag, s)) : ∃ d i, P.underlying t = some d ∧ P.info? t = some i ∧ (match d with | .struct _ | .array _ _ => true | _ => false) = ag ∧ i.size = s := by
  unfold tSz at h
  cases hd : P.underlying t with
  | none => simp [hd] at h
  | some d =>
    cases hi : P.info? t with
    | none => simp [hd, hi] at h
    | some i => simp [hd, hi] at h; exact ⟨d, i, rfl, rfl, h.1, h.2⟩

theorem run_isAgg {t : TypeId} {ag : Bool} {s : Nat} (h : tSz P t = some (ag, s)) (w : World) : (isAgg t).run P w = .ok ag w := by
  obtain ⟨d, i, hd, hi, ha, _⟩ := tSz_inv h
  unfold isAgg
  rw [Sem.run_bind, run_underlying hd w]
  subst ha
  cases d <;> rfl
theorem run_sizeOf {t : TypeId} {ag : Bool} {s : Nat} (h : tSz P t = some (ag, s)) (w : World) : (sizeOf t).run P w = .ok s w := by
  obtain ⟨d, i, hd, hi, ha, hs⟩ := tSz_inv h
  simp [sizeOf, typeInfo, hi, hs]

/-- A whole variable of a struct's or an array's type, read. -/
theorem run_loadVar_agg {t : TypeId} {s : Nat} (h : tSz P t = some (true, s)) {w : World} {a : Addr} {cs : List Value} (hl : cs.length = s) (hc : ∀ j v, cs[j]? = some v → w.cell? (a.add j) = some v) :
    (loadVar t a).run P w = .ok (.agg cs.toArray) w := by
  have := run_loadCells_list (P := P) w a cs hc
  simp [loadVar, run_isAgg h, run_sizeOf h, ← hl, this]
theorem run_loadVar_one {t : TypeId} {s : Nat} (h : tSz P t = some (false, s)) {w : World} {a : Addr} {v : Value} (hc : w.cell? a = some v) :
    (loadVar t a).run P w = .ok v w := by
  simp [loadVar, run_isAgg h, hc]

theorem addr_add (b o n : Nat) : (⟨b, o, none⟩ : Addr).add n = ⟨b, o + n, none⟩ := by unfold Addr.add; split <;> simp_all

theorem box_cell {w : World} {b : Nat} {cs : List Value} {ty : TypeId} (h : (Own.box b cs ty).holds w) (j : Nat) : w.cell? ⟨b, j, none⟩ = cs[j]? := by
  have := cell_of_row w b j cs.toArray ty (0, 0) h
  rw [this]; simp

theorem run_load_box_agg {t : TypeId} {s : Nat} (h : tSz P t = some (true, s)) {w : World} {b off : Nat} {cs vs : List Value} {ty : TypeId} (hb : (Own.box b cs ty).holds w)
    (hv : (cs.drop off).take s = vs) (hl : vs.length = s) : (loadVar t ⟨b, off, none⟩).run P w = .ok (.agg vs.toArray) w := by
  refine run_loadVar_agg h hl fun j v hj => ?_
  rw [addr_add, box_cell hb]
  rw [← hv, List.getElem?_take] at hj
  split at hj
  · simpa using hj
  · cases hj
theorem run_load_box_one {t : TypeId} {s : Nat} (h : tSz P t = some (false, s)) {w : World} {b off : Nat} {cs : List Value} {v : Value} {ty : TypeId} (hb : (Own.box b cs ty).holds w)
    (hv : cs[off]? = some v) : (loadVar t ⟨b, off, none⟩).run P w = .ok v w :=
  run_loadVar_one h (by rw [box_cell hb]; exact hv)

/-- The world with the row b holding cs. -/
theorem run_storeVar_box {t : TypeId} {ag : Bool} {s : Nat} (h : tSz P t = some (ag, s)) {w : World} {b off : Nat} {cs vs : List Value} {ty : TypeId} (hb : (Own.box b cs ty).holds w) {v : Value}
    (hv : v.cells = vs.toArray) (hs : vs.length = s) (h1 : ∀ u ∈ vs, u.oneCell' = true) (hl : off + vs.length ≤ cs.length) :
    (storeVar t ⟨b, off, none⟩ v).run P w = .ok () (w.setRow b (splice cs off vs).toArray) := by
  have := run_storeCells_at P b off ty vs 0 cs.toArray w hb (by simpa using hl) h1
  simp only [Nat.add_zero] at this
  simp [storeVar, run_sizeOf h, hv, hs, this, splice]
end runs

theorem box_setRow {w : World} {b : Nat} {cs cs' : List Value} {ty : TypeId} (h : (Own.box b cs ty).holds w) : (Own.box b cs' ty).holds (w.setRow b cs'.toArray) :=
  setRow_heap w b cs.toArray cs'.toArray ty _ h

/-! ### Own blocks: one of them turned -/
inductive Upd : List Own → Own → Own → List Own → Prop
  | hd {o o' : Own} {r : List Own} : Upd (o :: r) o o' (o' :: r)
  | tl {x o o' : Own} {r r' : List Own} (h : Upd r o o' r') : Upd (x :: r) o o' (x :: r')

theorem Upd.mem {B B' : List Own} {o o' : Own} (h : Upd B o o' B') : o ∈ B := by
  induction h with
  | hd => exact .head _
  | tl _ ih => exact .tail _ ih
theorem Upd.of_mem {B B' : List Own} {o o' : Own} (h : Upd B o o' B') {x : Own} (hx : x ∈ B') : x = o' ∨ x ∈ B := by
  induction h with
  | hd => cases hx with
    | head => exact .inl rfl
    | tail _ h => exact .inr (.tail _ h)
  | tl _ ih => cases hx with
    | head => exact .inr (.head _)
    | tail _ h => exact (ih h).imp id (.tail _)
theorem Upd.blks {B B' : List Own} {o o' : Own} (h : Upd B o o' B') (hb : o'.blk = o.blk) (b : Nat) : blks B' b ↔ blks B b := by
  induction h with
  | hd => simp [Proofs.YtjahiohlekdhoaaDoor.blks, hb]
  | tl _ ih =>
    simp only [Proofs.YtjahiohlekdhoaaDoor.blks, List.mem_cons, exists_eq_or_imp] at ih ⊢
    rw [ih hb]
theorem marks_cons (x : Own) (r : List Own) : marks (x :: r) = marks [x] ++ marks r := by cases x <;> rfl
theorem Upd.marks {B B' : List Own} {o o' : Own} (h : Upd B o o' B') (hm : marks [o'] = marks [o]) : marks B' = marks B := by
  induction h with
  | hd => rename_i o o' r; rw [marks_cons o' r, marks_cons o r, hm]
  | @tl x o o' r r' _ ih => rw [marks_cons x r', marks_cons x r, ih hm]
theorem Upd.rest {B B' : List Own} {o o' : Own} (h : Upd B o o' B') (hp : B.Pairwise Apart) (hb : o'.blk = o.blk) :
    B'.Pairwise Apart ∧ ∀ x ∈ B', x = o' ∨ (x ∈ B ∧ Apart o x) := by
  induction h with
  | hd =>
    rename_i o o' r
    cases hp with
    | cons h1 h2 =>
      refine ⟨.cons (fun y hy b hb' => h1 y hy b (hb ▸ hb')) h2, fun x hx => ?_⟩
      cases hx with
      | head => exact .inl rfl
      | tail _ hx => exact .inr ⟨.tail _ hx, h1 x hx⟩
  | tl hu ih =>
    rename_i x o o' r r'
    cases hp with
    | cons h1 h2 =>
      obtain ⟨i1, i2⟩ := ih h2 hb
      refine ⟨.cons (fun y hy b hb' => ?_) i1, fun y hy => ?_⟩
      · rcases i2 y hy with rfl | ⟨hy', _⟩
        · rw [hb]; exact h1 o hu.mem b hb'
        · exact h1 y hy' b hb'
      · cases hy with
        | head => exact .inr ⟨.head _, fun b hb' hx => h1 o hu.mem b hx hb'⟩
        | tail _ hy =>
          rcases i2 y hy with rfl | ⟨hy', ha⟩
          · exact .inl rfl
          · exact .inr ⟨.tail _ hy', ha⟩

section
variable {c : Ctx} {ρ : List (Nat × Value)} {B B' : List Own} {Φ : List Res} {Ψ : List JR} {ops : Array Oper} {rest : List Oper} {Q : Post} {d ty t : Nat} {ps : String} {af : Array Edge} {x y z : Operand} {v u : Value}

/-- The state behind a turn of own block b to a block that holds o'. -/
theorem MS.turn {V U M : Av} {w w' : World} (m : MS c B Φ Ψ V U M w) {o o' : Own} (hu : Upd B o o' B') (hb : o'.blk = o.blk) (hh : o'.holds w') (hsz : w'.heap.size = w.heap.size)
    (hk : ∀ k, o.blk ≠ some k → w'.heap[k]? = w.heap[k]?) (hio : Io w w' := by exact ⟨rfl, rfl, rfl⟩) : MS c B' Φ Ψ V U M w' := by
  have hV : ∀ b, o.blk = some b → V b := fun b h => m.vb b ⟨o, hu.mem, h⟩
  have hU : ∀ b, o.blk = some b → U b := fun b h => m.ub b ⟨o, hu.mem, h⟩
  have kv : Kept V V w w' := ⟨by omega, fun b _ hn => hk b fun h => hn (hV b h), fun _ _ h => h⟩
  have ku : Kept U U w w' := ⟨by omega, fun b _ hn => hk b fun h => hn (hU b h), fun _ _ h => h⟩
  obtain ⟨r1, r2⟩ := hu.rest m.sep.apart hb
  refine ⟨m.vx, m.vm, fun b h => m.vb b ((hu.blks hb b).1 h), fun b h => by rw [hsz]; exact m.vlt b h, fun b h => m.ub b ((hu.blks hb b).1 h), fun b h => by rw [hsz]; exact m.ult b h, ⟨fun q hq => ?_, r1⟩, fun b h => m.own b ((hu.blks hb b).1 h),
    fun φ hφ => φ.st kv (m.phi φ hφ), fun ψ hψ => ψ.st ku (m.psi ψ hψ), c.G.st kv m.g, by rw [hsz]; exact m.sz, fun b h1 h2 h3 => ?_, m.xlt, m.mo, m.io.trans hio⟩
  · rcases r2 q hq with rfl | ⟨hq', ha⟩
    · exact hh
    · exact Own.keep (m.sep.holds q hq') fun b hb' => hk b fun h => ha b h hb'
  · refine (hk b fun h => ?_).trans (m.frame b h1 h2 h3)
    rcases (m.own b ⟨o, hu.mem, h⟩).1 with h' | h'
    · exact h2 h'
    · omega

/-- A new block: w' is w with one more block. -/
theorem MS.new {V U M : Av} {w w' : World} (m : MS c B Φ Ψ V U M w) {o : Own} (hb : o.blk = some w.heap.size) (hh : o.holds w') (hsz : w'.heap.size = w.heap.size + 1)
    (hk : ∀ k, k < w.heap.size → w'.heap[k]? = w.heap[k]?) (hio : Io w w' := by exact ⟨rfl, rfl, rfl⟩) : ∃ V' U', MS c (o :: B) Φ Ψ V' U' M w' := by
  have kv : Kept V (fun b => b = w.heap.size ∨ V b) w w' := ⟨by omega, fun b hl _ => hk b hl, fun b hl h => h.resolve_left (by omega)⟩
  have ku : Kept U (fun b => b = w.heap.size ∨ U b) w w' := ⟨by omega, fun b hl _ => hk b hl, fun b hl h => h.resolve_left (by omega)⟩
  have hbl : ∀ b, blks (o :: B) b → b = w.heap.size ∨ blks B b := fun b ⟨q, hq, h⟩ => by
    cases hq with
    | head => exact .inl (by rw [hb] at h; cases h; rfl)
    | tail _ hq => exact .inr ⟨q, hq, h⟩
  refine ⟨fun b => b = w.heap.size ∨ V b, fun b => b = w.heap.size ∨ U b, ⟨fun b h => .inr (m.vx b h), fun b h => .inr (m.vm b h), fun b h => (hbl b h).imp id (m.vb b), fun b h => ?_, fun b h => (hbl b h).imp id (m.ub b),
    fun b h => ?_, ⟨fun q hq => ?_, .cons (fun q hq b h1 h2 => ?_) m.sep.apart⟩, fun b h => ?_, fun φ hφ => φ.st kv (m.phi φ hφ), fun ψ hψ => ψ.st ku (m.psi ψ hψ), c.G.st kv m.g, by rw [hsz]; exact Nat.le_succ_of_le m.sz, fun b h1 h2 h3 => ?_, m.xlt, m.mo, m.io.trans hio⟩⟩
  · rcases h with rfl | h
    · omega
    · have := m.vlt b h; omega
  · rcases h with rfl | h
    · omega
    · have := m.ult b h; omega
  · cases hq with
    | head => exact hh
    | tail _ hq => exact Own.keep (m.sep.holds q hq) fun b h => hk b (Own.lt (m.sep.holds q hq) h)
  · rw [hb] at h1; cases h1
    have := Own.lt (m.sep.holds q hq) h2
    omega
  · rcases hbl b h with rfl | h'
    · exact ⟨.inr m.sz, fun h => by have := m.xlt _ h; have := m.sz; omega, fun h => by have := m.vlt _ (m.vm _ h); omega⟩
    · exact m.own b h'
  · have h := m.sz
    exact (hk b (by omega)).trans (m.frame b h1 h2 h3)

/-! ### Operations that leave memory alone -/
/-- Whatever operation that runs to a value, the world as it was. -/
theorem r_val {o : Oper} (hg : o.guard = none) (hnd : ∀ c, o.op ≠ .defer c) (hd : o.dst = some d) (hb : Nat.blt d c.nt = true)
    (hrun : ∀ a w, St c ρ B Φ Ψ a w → (execOp a.eval o).run c.P w = .ok (.value v) w) (k : SL c ((d, v) :: ρ) B Φ Ψ ops rest Q) : SL c ρ B Φ Ψ ops (o :: rest) Q :=
  sl_plain hg fun a w hs _K hK => op_value hnd (hrun a w hs) (hK _ _ (k _ _ (hd ▸ hs.put hb v)))

theorem r_move (hx : ev ρ x = some v := by exact rfl) (hb : Nat.blt d c.nt = true := by exact rfl) (k : SL c ((d, v) :: ρ) B Φ Ψ ops rest Q) : SL c ρ B Φ Ψ ops (⟨some d, .move x, ty, ps, af, none⟩ :: rest) Q :=
  r_val rfl (fun _ => by simp) rfl hb (fun a w hs => by simp only [execOp, hs.ev hx, Sem.run_pure]) k
theorem r_assign (hx : ev ρ x = some v := by exact rfl) (hb : Nat.blt d c.nt = true := by exact rfl) (k : SL c ((d, v) :: ρ) B Φ Ψ ops rest Q) : SL c ρ B Φ Ψ ops (⟨some d, .assign x, ty, ps, af, none⟩ :: rest) Q :=
  r_val rfl (fun _ => by simp) rfl hb (fun a w hs => by simp only [execOp, hs.ev hx, Sem.run_pure]) k
theorem r_pick_t (hx : ev ρ x = some (.bool true)) (hy : ev ρ y = some v) (hb : Nat.blt d c.nt = true) (k : SL c ((d, v) :: ρ) B Φ Ψ ops rest Q) : SL c ρ B Φ Ψ ops (⟨some d, .pick x y z, ty, ps, af, none⟩ :: rest) Q :=
  r_val rfl (fun _ => by simp) rfl hb (fun a w hs => by simp [execOp, hs.ev hx, hs.ev hy, asBool]) k
theorem r_pick_f (hx : ev ρ x = some (.bool false)) (hz : ev ρ z = some v) (hb : Nat.blt d c.nt = true) (k : SL c ((d, v) :: ρ) B Φ Ψ ops rest Q) : SL c ρ B Φ Ψ ops (⟨some d, .pick x y z, ty, ps, af, none⟩ :: rest) Q :=
  r_val rfl (fun _ => by simp) rfl hb (fun a w hs => by simp [execOp, hs.ev hx, hs.ev hz, asBool]) k

/-- A slot told anew. -/
theorem r_re {t : Nat} {v v' : Value} (hx : lk ρ t = some v) (e : v = v') (k : SL c ((t, v') :: ρ) B Φ Ψ ops rest Q) : SL c ρ B Φ Ψ ops rest Q := fun a w hs => k a w ⟨hs.nt, fun s u hu => by
  rw [lk_cons] at hu
  split at hu
  · rename_i h; subst h; cases hu; subst e; exact hs.reg _ _ hx
  · exact hs.reg s u hu, hs.dfr, hs.mem⟩
theorem w_re {t : Nat} {v v' : Value} {code : Code} (hx : lk ρ t = some v) (e : v = v') (k : SW c ((t, v') :: ρ) B Φ Ψ code Q) : SW c ρ B Φ Ψ code Q := fun a w hs => k a w ⟨hs.nt, fun s u hu => by
  rw [lk_cons] at hu
  split at hu
  · rename_i h; subst h; cases hu; subst e; exact hs.reg _ _ hx
  · exact hs.reg s u hu, hs.dfr, hs.mem⟩

/-! ### Guards -/
theorem yielded_of {a : Act} {w : World} (hs : St c ρ B Φ Ψ a w) {j g : Nat} {o : Oper} {b : Bool} (ho : ops[j]? = some o) (hd : o.dst = some g) (hx : lk ρ g = some (.bool b)) (hb : Nat.blt g c.nt = true) : yielded ops a.tmps j = some b := by
  have h1 := hs.reg g _ hx
  have hlt : g < a.tmps.size := by rw [hs.nt]; simpa [Nat.blt_eq] using hb
  have h2 : a.tmps[g]? = some (.bool b) := by
    rw [Array.getD_eq_getD_getElem?] at h1
    rw [Array.getElem?_eq_getElem hlt] at h1 ⊢
    simpa using h1
  simp [yielded, ho, hd, h2]

/-- A guarded operation whose guard says yes: as one without a guard. -/
theorem g_yes {o : Op} {dst : Option Tmp} {j g : Nat} {og : Oper} {want : Bool} (ho : ops[j]? = some og) (hd : og.dst = some g) (hx : lk ρ g = some (.bool want)) (hb : Nat.blt g c.nt = true)
    (k : SL c ρ B Φ Ψ ops (⟨dst, o, ty, ps, af, none⟩ :: rest) Q) : SL c ρ B Φ Ψ ops (⟨dst, o, ty, ps, af, some (j, want)⟩ :: rest) Q := fun a w hs => by
  have h := k a w hs
  have hy := yielded_of (ops := ops) hs ho hd hx hb
  simp only [wpListIn, Region.wanted, hy, beq_self_eq_true, if_true] at h ⊢
  exact h
theorem g_no {o : Op} {j g : Nat} {og : Oper} {want have' : Bool} (ho : ops[j]? = some og) (hd : og.dst = some g) (hx : lk ρ g = some (.bool have')) (hb : Nat.blt g c.nt = true) (hne : (have' == want) = false)
    (hb' : Nat.blt d c.nt = true) (k : SL c ((d, undef) :: ρ) B Φ Ψ ops rest Q) : SL c ρ B Φ Ψ ops (⟨some d, o, ty, ps, af, some (j, want)⟩ :: rest) Q := fun a w hs => by
  have h := k _ w (hs.put hb' undef)
  have hy := yielded_of (ops := ops) hs ho hd hx hb
  have hw : (some have' == some want) = false := by simpa using hne
  simp only [wpListIn, Region.wanted, hy, hw, Bool.false_eq_true, if_false]
  exact ⟨fun _ _ => trivial, h⟩
theorem g_no' {o : Op} {j g : Nat} {og : Oper} {want have' : Bool} (ho : ops[j]? = some og) (hd : og.dst = some g) (hx : lk ρ g = some (.bool have')) (hb : Nat.blt g c.nt = true) (hne : (have' == want) = false)
    (k : SL c ρ B Φ Ψ ops rest Q) : SL c ρ B Φ Ψ ops (⟨none, o, ty, ps, af, some (j, want)⟩ :: rest) Q := fun a w hs => by
  have h := k _ w hs
  have hy := yielded_of (ops := ops) hs ho hd hx hb
  have hw : (some have' == some want) = false := by simpa using hne
  simp only [wpListIn, Region.wanted, hy, hw, Bool.false_eq_true, if_false]
  exact ⟨fun _ _ => trivial, h⟩
/-- A slot's bool is parted: the slot is told as true, or false. -/
theorem b_part {t : Nat} {b : Bool} {l : List Oper} (hx : lk ρ t = some (.bool b)) (h1 : b = true → SL c ((t, .bool true) :: ρ) B Φ Ψ ops l Q) (h2 : b = false → SL c ((t, .bool false) :: ρ) B Φ Ψ ops l Q) : SL c ρ B Φ Ψ ops l Q := by
  cases b
  · exact r_re hx rfl (h2 rfl)
  · exact r_re hx rfl (h1 rfl)

/-! ### Arithmetic -/
section arith
variable {yt xt : TypeId} {m n : Int} {kk : IntKind}

theorem r_bin {op : BinOp} (hx : ev ρ x = some u) (hy : ev ρ y = some v) {r : Value} (hb : Nat.blt d c.nt = true) (hrun : ∀ w, ((do eqGuard op xt x y u v; binOp op xt u v) : Sem Value).run c.P w = .ok r w)
    (k : SL c ((d, r) :: ρ) B Φ Ψ ops rest Q) : SL c ρ B Φ Ψ ops (⟨some d, .binOp op xt x y yt, ty, ps, af, none⟩ :: rest) Q :=
  r_val rfl (fun _ => by simp) rfl hb (fun a w hs => by
    have h := hrun w
    simp only [Sem.run_bind] at h
    simp only [execOp, hs.ev hx, hs.ev hy, Sem.run_bind, h, Result.andThen_ok, Sem.run_pure]) k

theorem r_add (hx : ev ρ x = some (.int kk m)) (hy : ev ρ y = some (.int kk n)) (hb : Nat.blt d c.nt = true) (k : SL c ((d, .int kk (kk.wrap (m + n))) :: ρ) B Φ Ψ ops rest Q) :
    SL c ρ B Φ Ψ ops (⟨some d, .binOp .add xt x y yt, ty, ps, af, none⟩ :: rest) Q := r_bin hx hy hb (fun w => by simp [eqGuard, binOp, Op.intArith]) k
theorem r_sub (hx : ev ρ x = some (.int kk m)) (hy : ev ρ y = some (.int kk n)) (hb : Nat.blt d c.nt = true) (k : SL c ((d, .int kk (kk.wrap (m - n))) :: ρ) B Φ Ψ ops rest Q) :
    SL c ρ B Φ Ψ ops (⟨some d, .binOp .sub xt x y yt, ty, ps, af, none⟩ :: rest) Q := r_bin hx hy hb (fun w => by simp [eqGuard, binOp, Op.intArith]) k
theorem r_mul (hx : ev ρ x = some (.int kk m)) (hy : ev ρ y = some (.int kk n)) (hb : Nat.blt d c.nt = true) (k : SL c ((d, .int kk (kk.wrap (m * n))) :: ρ) B Φ Ψ ops rest Q) :
    SL c ρ B Φ Ψ ops (⟨some d, .binOp .mul xt x y yt, ty, ps, af, none⟩ :: rest) Q := r_bin hx hy hb (fun w => by simp [eqGuard, binOp, Op.intArith]) k

theorem wrap_in {n : Int} (h1 : -9223372036854775808 ≤ n) (h2 : n ≤ 9223372036854775807) : IntKind.i64.wrap n = n := by
  simp only [IntKind.wrap, IntKind.signed, IntKind.bits, Bool.true_and, Int.reducePow, Nat.reduceSub]
  by_cases h : n % 18446744073709551616 ≥ 9223372036854775808
  · simp only [h, decide_true, if_true]; omega
  · simp only [h, decide_false, Bool.false_eq_true, if_false]; omega
theorem r_add64 (hx : ev ρ x = some (.int .i64 m) := by exact rfl) (hy : ev ρ y = some (.int .i64 n) := by exact rfl) (hb : Nat.blt d c.nt = true := by exact rfl) (h1 : -9223372036854775808 ≤ m + n := by omega) (h2 : m + n ≤ 9223372036854775807 := by omega) (k : SL c ((d, .int .i64 (m + n)) :: ρ) B Φ Ψ ops rest Q) :
    SL c ρ B Φ Ψ ops (⟨some d, .binOp .add xt x y yt, ty, ps, af, none⟩ :: rest) Q := r_add hx hy hb (by rw [wrap_in h1 h2]; exact k)
theorem r_sub64 (hx : ev ρ x = some (.int .i64 m) := by exact rfl) (hy : ev ρ y = some (.int .i64 n) := by exact rfl) (hb : Nat.blt d c.nt = true := by exact rfl) (h1 : -9223372036854775808 ≤ m - n := by omega) (h2 : m - n ≤ 9223372036854775807 := by omega) (k : SL c ((d, .int .i64 (m - n)) :: ρ) B Φ Ψ ops rest Q) :
    SL c ρ B Φ Ψ ops (⟨some d, .binOp .sub xt x y yt, ty, ps, af, none⟩ :: rest) Q := r_sub hx hy hb (by rw [wrap_in h1 h2]; exact k)

theorem r_lss (hx : ev ρ x = some (.int kk m) := by exact rfl) (hy : ev ρ y = some (.int kk n) := by exact rfl) (hb : Nat.blt d c.nt = true := by exact rfl) (k : SL c ((d, .bool (decide (m < n))) :: ρ) B Φ Ψ ops rest Q) :
    SL c ρ B Φ Ψ ops (⟨some d, .binOp .lss xt x y yt, ty, ps, af, none⟩ :: rest) Q := r_bin hx hy hb (fun w => by simp [eqGuard, binOp, Op.intCmp]) k
theorem r_leq (hx : ev ρ x = some (.int kk m) := by exact rfl) (hy : ev ρ y = some (.int kk n) := by exact rfl) (hb : Nat.blt d c.nt = true := by exact rfl) (k : SL c ((d, .bool (decide (m ≤ n))) :: ρ) B Φ Ψ ops rest Q) :
    SL c ρ B Φ Ψ ops (⟨some d, .binOp .leq xt x y yt, ty, ps, af, none⟩ :: rest) Q := r_bin hx hy hb (fun w => by simp [eqGuard, binOp, Op.intCmp]) k
theorem r_gtr (hx : ev ρ x = some (.int kk m) := by exact rfl) (hy : ev ρ y = some (.int kk n) := by exact rfl) (hb : Nat.blt d c.nt = true := by exact rfl) (k : SL c ((d, .bool (decide (n < m))) :: ρ) B Φ Ψ ops rest Q) :
    SL c ρ B Φ Ψ ops (⟨some d, .binOp .gtr xt x y yt, ty, ps, af, none⟩ :: rest) Q := r_bin hx hy hb (fun w => by simp [eqGuard, binOp, Op.intCmp]) k
theorem r_geq (hx : ev ρ x = some (.int kk m) := by exact rfl) (hy : ev ρ y = some (.int kk n) := by exact rfl) (hb : Nat.blt d c.nt = true := by exact rfl) (k : SL c ((d, .bool (decide (n ≤ m))) :: ρ) B Φ Ψ ops rest Q) :
    SL c ρ B Φ Ψ ops (⟨some d, .binOp .geq xt x y yt, ty, ps, af, none⟩ :: rest) Q := r_bin hx hy hb (fun w => by simp [eqGuard, binOp, Op.intCmp]) k
theorem r_eql (hx : ev ρ x = some (.int kk m) := by exact rfl) (hy : ev ρ y = some (.int kk n) := by exact rfl) (hb : Nat.blt d c.nt = true := by exact rfl) (k : SL c ((d, .bool (decide (m = n))) :: ρ) B Φ Ψ ops rest Q) :
    SL c ρ B Φ Ψ ops (⟨some d, .binOp .eql xt x y yt, ty, ps, af, none⟩ :: rest) Q := r_bin hx hy hb (fun w => by
      have e : (m == n) = decide (m = n) := by by_cases h : m = n <;> simp [h]
      simp [eqGuard, binOp, Op.intCmp, e]) k
theorem r_neq (hx : ev ρ x = some (.int kk m) := by exact rfl) (hy : ev ρ y = some (.int kk n) := by exact rfl) (hb : Nat.blt d c.nt = true := by exact rfl) (k : SL c ((d, .bool (decide (m ≠ n))) :: ρ) B Φ Ψ ops rest Q) :
    SL c ρ B Φ Ψ ops (⟨some d, .binOp .neq xt x y yt, ty, ps, af, none⟩ :: rest) Q := r_bin hx hy hb (fun w => by
      have e : (m != n) = decide (m ≠ n) := by by_cases h : m = n <;> simp [h]
      simp [eqGuard, binOp, Op.intCmp, e]) k
theorem r_eqlb {p q : Bool} (ht : c.P.underlying xt = some .bool) (hx : ev ρ x = some (.bool p)) (hy : ev ρ y = some (.bool q)) (hb : Nat.blt d c.nt = true) (k : SL c ((d, .bool (p == q)) :: ρ) B Φ Ψ ops rest Q) :
    SL c ρ B Φ Ψ ops (⟨some d, .binOp .eql xt x y yt, ty, ps, af, none⟩ :: rest) Q := r_bin hx hy hb (fun w => by simp only [Sem.run_bind, eqGuard, binOp, Op.equal, Op.maxDepth]; simp [run_equalIn_bool' w 9999 xt p q ht]) k
theorem r_neqb {p q : Bool} (ht : c.P.underlying xt = some .bool) (hx : ev ρ x = some (.bool p)) (hy : ev ρ y = some (.bool q)) (hb : Nat.blt d c.nt = true) (k : SL c ((d, .bool (!(p == q))) :: ρ) B Φ Ψ ops rest Q) :
    SL c ρ B Φ Ψ ops (⟨some d, .binOp .neq xt x y yt, ty, ps, af, none⟩ :: rest) Q := r_bin hx hy hb (fun w => by simp only [Sem.run_bind, eqGuard, binOp, Op.equal, Op.maxDepth]; simp [run_equalIn_bool' w 9999 xt p q ht]) k
theorem r_not {p : Bool} (hx : ev ρ x = some (.bool p) := by exact rfl) (hb : Nat.blt d c.nt = true := by exact rfl) (k : SL c ((d, .bool (!p)) :: ρ) B Φ Ψ ops rest Q) :
    SL c ρ B Φ Ψ ops (⟨some d, .unOp .not xt x, ty, ps, af, none⟩ :: rest) Q :=
  r_val rfl (fun _ => by simp) rfl hb (fun a w hs => by simp [execOp, hs.ev hx, Op.unary]) k
/-- A whole number's kind changed. -/
theorem r_conv {st dt : TypeId} {k' : IntKind} (ht : tInt c.P dt = some kk) (hs' : ∀ w, ∃ ds, (underlying st).run c.P w = .ok ds w) (hx : ev ρ x = some (.int k' m)) (hb : Nat.blt d c.nt = true) (k : SL c ((d, .int kk (kk.wrap m)) :: ρ) B Φ Ψ ops rest Q) :
    SL c ρ B Φ Ψ ops (⟨some d, .convert st dt x, ty, ps, af, none⟩ :: rest) Q :=
  r_val rfl (fun _ => by simp) rfl hb (fun a w hs => by
    obtain ⟨ds, hds⟩ := hs' w
    have hk : c.P.underlying dt = some (.int kk) := by
      unfold tInt at ht
      split at ht
      · rename_i h; cases ht; exact h
      · cases ht
    simp only [execOp, hs.ev hx, convert, Sem.run_bind, hds, Result.andThen_ok, run_underlying hk w]
    cases ds <;> simp [Conv.intToInt]) k
end arith

/-! ### Tuples -/
theorem r_extract {vs : Array Value} {i : Nat} (hx : ev ρ x = some (.tuple vs)) (hi : vs[i]? = some v) (hb : Nat.blt d c.nt = true) (k : SL c ((d, v) :: ρ) B Φ Ψ ops rest Q) :
    SL c ρ B Φ Ψ ops (⟨some d, .extract x i, ty, ps, af, none⟩ :: rest) Q :=
  r_val rfl (fun _ => by simp) rfl hb (fun a w hs => by simp [execOp, hs.ev hx, Instr.extract, hi]) k

/-! ### Own variables -/
theorem heap_alloc_lt (w : World) (o : Obj) (k : Nat) (h : k < w.heap.size) : (w.alloc o).heap[k]? = w.heap[k]? := heap_alloc_old w o k h

theorem r_alloc (hz : tZ c.P t = some v) {cs : List Value} (hv : v.cells = cs.toArray) (hb : Nat.blt d c.nt = true) (k : ∀ b, SL c ((d, .pointer (some ⟨b, 0, none⟩)) :: ρ) (.box b cs t :: B) Φ Ψ ops rest Q) :
    SL c ρ B Φ Ψ ops (⟨some d, .alloc t, ty, ps, af, none⟩ :: rest) Q :=
  sl_plain rfl fun a w hs K hK => by
    have hz' : ∃ i, c.P.info? t = some i ∧ i.zero = some v := by
      unfold tZ at hz
      cases hi : c.P.info? t with
      | none => simp [hi] at hz
      | some i => simp [hi] at hz; exact ⟨i, rfl, hz⟩
    obtain ⟨i, hi, hiz⟩ := hz'
    refine op_value (v := .pointer (some ⟨w.heap.size, 0, none⟩)) (w' := w.alloc (.cells cs.toArray t)) (fun _ => by simp) ?_ (hK _ _ (k w.heap.size _ _ ?_))
    · simp [execOp, Instr.alloc, zeroValue, typeInfo, hi, hiz, newVar, newRow, hv]
    · obtain ⟨V, U, M, m⟩ := hs.mem
      obtain ⟨V', U', m'⟩ := m.new (o := .box w.heap.size cs t) (w' := w.alloc (.cells cs.toArray t)) rfl (heap_alloc_new w _) (by simp) (heap_alloc_lt w _)
      exact (hs.put hb _).mem' rfl m'
theorem r_box (hx : ev ρ x = some v := by exact rfl) {cs : List Value} (hv : v.cells = cs.toArray := by first | assumption | exact rfl) (hb : Nat.blt d c.nt = true := by exact rfl) (k : ∀ b, SL c ((d, .pointer (some ⟨b, 0, none⟩)) :: ρ) (.box b cs t :: B) Φ Ψ ops rest Q) :
    SL c ρ B Φ Ψ ops (⟨some d, .box t x, ty, ps, af, none⟩ :: rest) Q :=
  sl_plain rfl fun a w hs K hK => by
    refine op_value (v := .pointer (some ⟨w.heap.size, 0, none⟩)) (w' := w.alloc (.cells cs.toArray t)) (fun _ => by simp) ?_ (hK _ _ (k w.heap.size _ _ ?_))
    · simp [execOp, hs.ev hx, Instr.box, newVar, newRow, hv]
    · obtain ⟨V, U, M, m⟩ := hs.mem
      obtain ⟨V', U', m'⟩ := m.new (o := .box w.heap.size cs t) (w' := w.alloc (.cells cs.toArray t)) rfl (heap_alloc_new w _) (by simp) (heap_alloc_lt w _)
      exact (hs.put hb _).mem' rfl m'

theorem r_load_agg {b off s : Nat} {cs vs : List Value} {bt : TypeId} (ht : tSz c.P t = some (true, s) := by exact tz rfl) (hx : ev ρ x = some (.pointer (some ⟨b, off, none⟩)) := by exact rfl) (hB : Own.box b cs bt ∈ B := by iterate 24 (first | exact .head _ | apply List.Mem.tail | skip)) (hv : (cs.drop off).take s = vs := by exact rfl) (hl : vs.length = s := by exact rfl)
    (hb : Nat.blt d c.nt = true := by exact rfl) (k : SL c ((d, .agg vs.toArray) :: ρ) B Φ Ψ ops rest Q) : SL c ρ B Φ Ψ ops (⟨some d, .load t x, ty, ps, af, none⟩ :: rest) Q :=
  r_val rfl (fun _ => by simp) rfl hb (fun a w hs => by
    obtain ⟨V, U, M, m⟩ := hs.mem
    simp [execOp, hs.ev hx, Instr.loadAt, Instr.sureAddr, run_load_box_agg ht (m.sep.holds _ hB) hv hl]) k
theorem r_load_all {b s : Nat} {cs : List Value} {bt : TypeId} (ht : tSz c.P t = some (true, s) := by exact tz rfl) (hx : ev ρ x = some (.pointer (some ⟨b, 0, none⟩)) := by exact rfl) (hB : Own.box b cs bt ∈ B := by iterate 24 (first | exact .head _ | apply List.Mem.tail | skip)) (hl : cs.length = s := by exact rfl)
    (hb : Nat.blt d c.nt = true := by exact rfl) (k : SL c ((d, .agg cs.toArray) :: ρ) B Φ Ψ ops rest Q) : SL c ρ B Φ Ψ ops (⟨some d, .load t x, ty, ps, af, none⟩ :: rest) Q :=
  r_load_agg ht hx hB (by rw [List.drop_zero]; exact List.take_of_length_le (Nat.le_of_eq hl)) hl hb k
theorem r_load_one {b off s : Nat} {cs : List Value} {bt : TypeId} (ht : tSz c.P t = some (false, s) := by exact tz rfl) (hx : ev ρ x = some (.pointer (some ⟨b, off, none⟩)) := by exact rfl) (hB : Own.box b cs bt ∈ B := by iterate 24 (first | exact .head _ | apply List.Mem.tail | skip)) (hv : cs[off]? = some v := by exact rfl)
    (hb : Nat.blt d c.nt = true := by exact rfl) (k : SL c ((d, v) :: ρ) B Φ Ψ ops rest Q) : SL c ρ B Φ Ψ ops (⟨some d, .load t x, ty, ps, af, none⟩ :: rest) Q :=
  r_val rfl (fun _ => by simp) rfl hb (fun a w hs => by
    obtain ⟨V, U, M, m⟩ := hs.mem
    simp [execOp, hs.ev hx, Instr.loadAt, Instr.sureAddr, run_load_box_one ht (m.sep.holds _ hB) hv]) k

theorem size_setRow' (w : World) (g : Nat) (cs : Array Value) : (w.setRow g cs).heap.size = w.heap.size := by simp

theorem r_store {b off s : Nat} {ag : Bool} {cs cs' vs : List Value} {bt : TypeId} (ht : tSz c.P t = some (ag, s) := by exact tz rfl) (hx : ev ρ x = some (.pointer (some ⟨b, off, none⟩)) := by exact rfl) (hy : ev ρ y = some v := by exact rfl)
    (hB : Upd B (.box b cs bt) (.box b cs' bt) B' := by iterate 24 (first | exact .hd | apply Upd.tl | skip)) (hv : v.cells = vs.toArray := by exact rfl) (hs : vs.length = s := by exact rfl) (h1 : vs.all Value.oneCell' = true := by exact rfl) (hl : off + vs.length ≤ cs.length := by decide) (hcs : splice cs off vs = cs' := by exact rfl)
    (k : SL c ρ B' Φ Ψ ops rest Q) : SL c ρ B Φ Ψ ops (⟨none, .store t x y, ty, ps, af, none⟩ :: rest) Q :=
  sl_plain rfl fun a w st K hK => by
    obtain ⟨V, U, M, m⟩ := st.mem
    have hold := m.sep.holds _ hB.mem
    have hrun := run_storeVar_box ht hold hv hs (fun u hu => List.all_eq_true.1 h1 u hu) hl
    refine op_skip (w' := w.setRow b (splice cs off vs).toArray) (fun _ => by simp) ?_ (hK _ _ (k _ _ ?_))
    · simp [execOp, st.ev hx, st.ev hy, Instr.storeAt, Instr.sureAddr, hrun]
    · refine st.mem' (hB.marks rfl) (m.turn hB rfl (w' := w.setRow b (splice cs off vs).toArray) (by rw [hcs]; exact box_setRow hold) (by simp) fun k hk => setRow_other w b k _ (fun e => hk (by rw [e]; rfl)))
theorem r_store_all {b s : Nat} {ag : Bool} {cs vs : List Value} {bt : TypeId} (ht : tSz c.P t = some (ag, s) := by exact tz rfl) (hx : ev ρ x = some (.pointer (some ⟨b, 0, none⟩)) := by exact rfl) (hy : ev ρ y = some v := by exact rfl)
    (hB : Upd B (.box b cs bt) (.box b vs bt) B' := by iterate 24 (first | exact .hd | apply Upd.tl | skip)) (hv : v.cells = vs.toArray := by exact rfl) (hs : vs.length = s := by exact rfl) (h1 : vs.all Value.oneCell' = true := by exact rfl) (hl : cs.length = s := by exact rfl)
    (k : SL c ρ B' Φ Ψ ops rest Q) : SL c ρ B Φ Ψ ops (⟨none, .store t x y, ty, ps, af, none⟩ :: rest) Q :=
  r_store ht hx hy hB hv hs h1 (by omega) (by simp [splice, List.drop_of_length_le (show cs.length ≤ vs.length by omega)]) k
/-- A store of one cell. -/
theorem r_store_one {b off s : Nat} {cs cs' : List Value} {bt : TypeId} (ht : tSz c.P t = some (false, s)) (hs : s = 1) (hx : ev ρ x = some (.pointer (some ⟨b, off, none⟩))) (hy : ev ρ y = some v)
    (h1 : v.oneCell' = true) (hl : off < cs.length) (hcs : cs.set off v = cs') (hB : Upd B (.box b cs bt) (.box b cs' bt) B')
    (k : SL c ρ B' Φ Ψ ops rest Q) : SL c ρ B Φ Ψ ops (⟨none, .store t x y, ty, ps, af, none⟩ :: rest) Q :=
  r_store (vs := [v]) ht hx hy hB (by cases v <;> first | rfl | (simp [Value.oneCell'] at h1)) (by simp [hs]) (by simp [h1]) (by simp; omega) (by
    rw [← hcs]
    unfold splice
    rw [List.set_eq_take_append_cons_drop, if_pos hl]
    simp) k

/-! ### Addresses -/
theorem r_fieldAddr {b off f s : Nat} {ag : Bool} {i : Nat} (ht : tFd c.P t i = some (f, ag, s) := by exact tf rfl rfl) (hs0 : Nat.beq s 0 = false := by exact rfl) (hx : ev ρ x = some (.pointer (some ⟨b, off, none⟩)) := by exact rfl) (hb : Nat.blt d c.nt = true := by exact rfl)
    (k : SL c ((d, .pointer (some ⟨b, off + f, none⟩)) :: ρ) B Φ Ψ ops rest Q) : SL c ρ B Φ Ψ ops (⟨some d, .fieldAddr t x i, ty, ps, af, none⟩ :: rest) Q :=
  r_val rfl (fun _ => by simp) rfl hb (fun a w hs => by
    unfold tFd at ht
    split at ht
    · rename_i fs hu
      split at ht
      · rename_i fl hf
        split at ht
        · rename_i ag' s' hsz
          cases ht
          have hne : ¬ s = 0 := ne_of_beq hs0
          simp [execOp, hs.ev hx, Instr.fieldAt, run_underlying hu, hf, Instr.sureAddr, fieldPlace, run_sizeOf hsz, hne, addr_add]
        · cases ht
      · cases ht
    · cases ht) k
end

end Go.Proofs.YtjahiohlekdhoaaDoor

namespace Go.Proofs.YtjahiohlekdhoaaDoor
open Go

def Or' (X Y : Av) : Av := fun b => X b ∨ Y b
def NoAv : Av := fun _ => False

abbrev PostC := Value → List Own → List Res → Prop

/-- WHAT A FUNCTION DOES: called with these arguments where these blocks are handed to it and these facts hold, it returns; of what was there it changes the handed blocks alone; what it tells speaks of no block of the caller's own. -/
structure Ctr (P : Program) (G : Res) (f : FuncId) (args : List Value) (B : List Own) (Φ : List Res) (post : PostC) : Prop where
  nomark : marks B = []
  enters : ∀ args w, (callFunc f args).run P w = .ok (.enter f args) w
  calls : ∀ (w : World) (X : Av), (∀ x, X x → x < w.heap.size) → Sep B w → (∀ b, blks B b → ¬ X b) → (∀ φ ∈ Φ, φ.p (Or' X (blks B)) w) → G.p (Or' X (blks B)) w →
    Calls P f args.toArray w fun e w' => ∃ v B' Φ', e = .returned v ∧ post v B' Φ' ∧ marks B' = [] ∧ Sep B' w' ∧ (∀ b, blks B' b → ¬ X b ∧ (blks B b ∨ w.heap.size ≤ b)) ∧
      (∀ φ ∈ Φ', φ.p (Or' X (blks B')) w') ∧ (w.heap.size ≤ w'.heap.size ∧ Io w w') ∧ ∀ b, b < w.heap.size → ¬ blks B b → w'.heap[b]? = w.heap[b]?

theorem callsIn_fr {r : Option Nat} {n : Nat} {P : Program} {f : FuncId} {args : Array Value} {w : World} {R : Ending → World → Prop} (h : Calls P f args w R) : CallsIn (Fr r) n P f args w R := by
  have h' : CallsIn Fence.wide n P f args w R := callsIn_wide.2 h
  cases r with
  | none => exact h'
  | some l => exact CallsIn.inRound l h'
theorem calls_fr {n : Nat} {P : Program} {f : FuncId} {args : Array Value} {w : World} {R : Ending → World → Prop} (h : CallsIn (Fr none) n P f args w R) : Calls P f args w R := callsIn_wide.1 h

theorem blks_append {A B : List Own} {b : Nat} : blks (A ++ B) b ↔ blks A b ∨ blks B b := by
  simp only [blks, List.mem_append]
  constructor
  · rintro ⟨o, h | h, e⟩
    · exact .inl ⟨o, h, e⟩
    · exact .inr ⟨o, h, e⟩
  · rintro (⟨o, h, e⟩ | ⟨o, h, e⟩)
    · exact ⟨o, .inl h, e⟩
    · exact ⟨o, .inr h, e⟩
theorem marks_append {A B : List Own} : marks (A ++ B) = marks A ++ marks B := by
  induction A with
  | nil => rfl
  | cons x r ih => rw [List.cons_append, marks_cons, marks_cons x r, ih, List.append_assoc]

section
variable {c : Ctx} {ρ : List (Nat × Value)} {B Bp Br B' : List Own} {Φ Φp : List Res} {Ψ : List JR} {ops : Array Oper} {rest : List Oper} {Q : Post} {d ty t : Nat} {ps : String} {af : Array Edge} {x y z : Operand} {v u : Value} {w : World}

/-- A fact where more is avoided no longer. -/
theorem Res.less (φ : Res) {V V' : Av} {w : World} (h : φ.p V w) (hv : ∀ b, V' b → V b) : φ.p V' w := φ.st ⟨Nat.le_refl _, fun _ _ _ => rfl, fun b _ => hv b⟩ h

theorem sep_left (h : Sep (Bp ++ Br) w) : Sep Bp w := ⟨fun o ho => h.holds o (List.mem_append_left _ ho), (List.pairwise_append.1 h.apart).1⟩

/-- The memory behind a call to which Bp was handed. -/
theorem MS.called {V U M : Av} {w w' : World} (m : MS c (Bp ++ Br) Φ Ψ V U M w) {Φ' : List Res} (hsep : Sep B' w') (hbl : ∀ b, blks B' b → ¬ (V b ∧ ¬ blks Bp b) ∧ (blks Bp b ∨ w.heap.size ≤ b))
    (hphi : ∀ φ ∈ Φ', φ.p (Or' (fun b => V b ∧ ¬ blks Bp b) (blks B')) w') (hsz : w.heap.size ≤ w'.heap.size) (hk : ∀ b, b < w.heap.size → ¬ blks Bp b → w'.heap[b]? = w.heap[b]?) (hio : Io w w') :
    ∃ V' U', MS c (B' ++ Br) (Φ' ++ Φ) Ψ V' U' M w' := by
  have hBp : ∀ b, blks Bp b → blks (Bp ++ Br) b := fun b h => blks_append.2 (.inl h)
  have hBr : ∀ b, blks Br b → blks (Bp ++ Br) b := fun b h => blks_append.2 (.inr h)
  have hdis : ∀ b, blks Br b → ¬ blks Bp b := fun b ⟨o, ho, e⟩ ⟨o', ho', e'⟩ => (List.pairwise_append.1 m.sep.apart).2.2 o' ho' o ho b e' e
  have kv : Kept V (Or' (fun b => V b ∧ ¬ blks Bp b) (blks B')) w w' := ⟨hsz, fun b hl hn => hk b hl fun h => hn (m.vb b (hBp b h)), fun b hl h => by
    rcases h with h | h
    · exact h.1
    · rcases (hbl b h).2 with h' | h'
      · exact m.vb b (hBp b h')
      · omega⟩
  have ku : Kept U (Or' (fun b => U b ∧ ¬ blks Bp b) (blks B')) w w' := ⟨hsz, fun b hl hn => hk b hl fun h => hn (m.ub b (hBp b h)), fun b hl h => by
    rcases h with h | h
    · exact h.1
    · rcases (hbl b h).2 with h' | h'
      · exact m.ub b (hBp b h')
      · omega⟩
  have hBl : ∀ b, blks B' b → b < w'.heap.size := fun b h => hsep.lt h
  refine ⟨_, Or' (fun b => U b ∧ ¬ blks Bp b) (blks B'), ⟨fun b h => .inl ⟨m.vx b h, fun h' => (m.own b (hBp b h')).2.1 h⟩, fun b h => .inl ⟨m.vm b h, fun h' => (m.own b (hBp b h')).2.2 h⟩, fun b h => ?_, fun b h => ?_, fun b h => ?_, fun b h => ?_,
    ⟨fun o ho => ?_, ?_⟩, fun b h => ?_, fun φ hφ => ?_, fun ψ hψ => ψ.st ku (m.psi ψ hψ), c.G.st kv m.g, Nat.le_trans m.sz hsz, fun b h1 h2 h3 => ?_, m.xlt, m.mo, m.io.trans hio⟩⟩
  · rcases blks_append.1 h with h | h
    · exact .inr h
    · exact .inl ⟨m.vb b (hBr b h), hdis b h⟩
  · rcases h with h | h
    · exact Nat.lt_of_lt_of_le (m.vlt b h.1) hsz
    · exact hBl b h
  · rcases blks_append.1 h with h | h
    · exact .inr h
    · exact .inl ⟨m.ub b (hBr b h), hdis b h⟩
  · rcases h with h | h
    · exact Nat.lt_of_lt_of_le (m.ult b h.1) hsz
    · exact hBl b h
  · rcases List.mem_append.1 ho with ho | ho
    · exact hsep.holds o ho
    · have hh := m.sep.holds o (List.mem_append_right _ ho)
      exact Own.keep hh fun b hb => hk b (Own.lt hh hb) (hdis b ⟨o, ho, hb⟩)
  · refine List.pairwise_append.2 ⟨hsep.apart, (List.pairwise_append.1 m.sep.apart).2.1, fun o ho o' ho' b e e' => ?_⟩
    have h1 : blks Br b := ⟨o', ho', e'⟩
    rcases (hbl b ⟨o, ho, e⟩).2 with h | h
    · exact hdis b h1 h
    · have := m.sep.lt (hBr b h1); omega
  · rcases blks_append.1 h with h | h
    · rcases (hbl b h).2 with h' | h'
      · exact m.own b (hBp b h')
      · have := m.sz
        exact ⟨.inr (by omega), fun hx => by have := m.xlt b hx; omega, fun hx => by have := m.vlt b (m.vm b hx); omega⟩
    · exact m.own b (hBr b h)
  · rcases List.mem_append.1 hφ with hφ | hφ
    · exact hphi φ hφ
    · exact φ.st kv (m.phi φ hφ)
  · have hs := m.sz
    refine (hk b (by omega) fun h => ?_).trans (m.frame b h1 h2 h3)
    rcases (m.own b (hBp b h)).1 with h' | h'
    · exact h2 h'
    · omega

/-- A call of a function by its contract; the blocks that are handed stand in front. -/
theorem r_call {f : FuncId} {args cap : List Value} {l : List Operand} {vs : List Value} {at' : Array TypeId} {post : PostC} {fo : Operand} (hc : Ctr c.P c.G f args Bp Φp post) (hf : ev ρ fo = some (.func (.func f) #[] cap.toArray)) (hargs : evs ρ l = some vs) (ha : args = vs ++ cap)
    (hΦ : ∀ φ ∈ Φp, φ ∈ Φ) (hb : Nat.blt d c.nt = true) (k : ∀ v B' Φ', post v B' Φ' → SL c ((d, v) :: ρ) (B' ++ Br) (Φ' ++ Φ) Ψ ops rest Q) :
    SL c ρ (Bp ++ Br) Φ Ψ ops (⟨some d, .call ⟨.value fo, l.toArray, at'⟩, ty, ps, af, none⟩ :: rest) Q :=
  sl_plain rfl fun a w hs K hK => by
    obtain ⟨V, U, M, m⟩ := hs.mem
    refine ⟨fun _ _ => trivial, ?_⟩
    have hsem : ∀ o : Oper, (∀ c, o.op ≠ .defer c) → (o.semAt (Fr c.r).round a.eval) = execOp a.eval o := fun o ho => Oper.semAt_eq _ _ _ ho
    rw [hsem _ (fun _ => by simp)]
    have hmap : l.toArray.map a.eval = vs.toArray := by rw [List.map_toArray, hs.evs hargs]
    have hrun : (execOp a.eval ⟨some d, .call ⟨.value fo, l.toArray, at'⟩, ty, ps, af, none⟩).run c.P w = .ok (.enter f args.toArray) w := by
      simp only [execOp, resolve, hs.ev hf, Deferred.ofValue, invoke, Sem.run_bind, Sem.run_pure, Result.andThen_ok, hmap]
      rw [hc.enters]
      congr 2
      rw [ha]; simp
    rw [hrun]
    refine ⟨fun h => (by cases h), callsIn_fr (Calls.mono (hc.calls w (fun b => V b ∧ ¬ blks Bp b) (fun b h => m.vlt b h.1) (sep_left m.sep) (fun b h h' => h'.2 h) (fun φ hφ => φ.less (m.phi φ (hΦ φ hφ)) ?_) (c.G.less m.g ?_)) ?_)⟩
    · intro b h
      rcases h with h | h
      · exact h.1
      · exact m.vb b (blks_append.2 (.inl h))
    · intro b h
      rcases h with h | h
      · exact h.1
      · exact m.vb b (blks_append.2 (.inl h))
    · rintro e w' ⟨v, B', Φ', rfl, hp, hm, hsep, hbl, hphi, ⟨hsz, hio⟩, hkept⟩
      refine hK _ _ (k v B' Φ' hp _ _ ?_)
      obtain ⟨V', U', m'⟩ := m.called hsep hbl hphi hsz hkept hio
      exact (hs.put hb v).mem' (by rw [marks_append, marks_append, hm, hc.nomark]) m'
end

/-! ### A function's entry and its ends -/
def regs : Nat → List Value → List (Nat × Value)
  | _, [] => []
  | n, v :: r => (n, v) :: regs (n + 1) r

theorem lk_regs : ∀ (l : List Value) (n t : Nat) (v : Value), lk (regs n l) t = some v → n ≤ t ∧ l[t - n]? = some v
  | [], _, _, _, h => by cases h
  | u :: r, n, t, v, h => by
    rw [regs, lk_cons] at h
    split at h
    · rename_i e; subst e; cases h; simp
    · obtain ⟨h1, h2⟩ := lk_regs r (n + 1) t v h
      refine ⟨by omega, ?_⟩
      have : t - n = (t - (n + 1)) + 1 := by omega
      rw [this]; simpa using h2

/-- What is asked at the ends of a function's body. -/
def FQ (c : Ctx) (fn : Func) (B0 : List Own) (post : PostC) : Post :=
  bodyPostM (Fr none) 0 c.P fn fun e w' => ∃ v B' Φ', e = .returned v ∧ post v B' Φ' ∧ marks B' = [] ∧ Sep B' w' ∧ (∀ b, blks B' b → ¬ c.X b ∧ (blks B0 b ∨ c.w0.heap.size ≤ b)) ∧
      (∀ φ ∈ Φ', φ.p (Or' c.X (blks B')) w') ∧ (c.w0.heap.size ≤ w'.heap.size ∧ Io c.w0 w') ∧ ∀ b, b < c.w0.heap.size → ¬ blks B0 b → w'.heap[b]? = c.w0.heap[b]?

theorem Ctr.intro {P : Program} {G : Res} {f : FuncId} {fn : Func} {code : Code} {args : List Value} {B : List Own} {Φ : List Res} {post : PostC} {nt : Nat} {ρ : List (Nat × Value)}
    (hf : P.funcs[f]? = some fn) (hn : (fn.name == "runtime.NumGoroutine") = false) (hbody : fn.body = some code) (hnt : fn.ntmps = nt) (hm : marks B = []) (hle : Nat.ble args.length nt = true) (hρ : regs 0 args = ρ)
    (h : ∀ w X, SW ⟨P, none, nt, w, X, blks B, NoAv, G⟩ ρ B Φ [] code (FQ ⟨P, none, nt, w, X, blks B, NoAv, G⟩ fn B post)) : Ctr P G f args B Φ post := by
  refine ⟨hm, enters_of hf hn hbody, fun w X hX hsep hdis hphi hG => ?_⟩
  refine calls_fr (n := 0) (callsIn_of_wp_marks hf hbody trivial ?_ rfl)
  have hle' : args.length ≤ nt := by simpa using hle
  refine h w X _ w ⟨by simp [hnt]; omega, fun t v ht => ?_, hm.symm, Or' X (blks B), blks B, NoAv, ?_⟩
  · rw [← hρ] at ht
    obtain ⟨_, h2⟩ := lk_regs args 0 t v ht
    have hlt : t < args.length := by
      rcases Nat.lt_or_ge t args.length with h | h
      · exact h
      · rw [Nat.sub_zero, List.getElem?_eq_none h] at h2; cases h2
    rw [Nat.sub_zero] at h2
    rw [Array.getD_eq_getD_getElem?, Array.getElem?_append_left (by simpa using hlt)]
    simp [h2]
  · exact ⟨fun b h => .inl h, fun b h => h.elim, fun b h => .inr h, fun b h => h.elim (hX b) hsep.lt, fun b h => h, fun b h => hsep.lt h, hsep, fun b h => ⟨.inl h, hdis b h, fun h => h⟩, hphi, fun ψ h => (by cases h), hG, Nat.le_refl _, fun _ _ _ _ => rfl, hX, fun b h => h.elim, Io.refl w⟩

/-! ### The ends -/
/-- What the result variables hold. -/
def res1 (ρ : List (Nat × Value)) (B : List Own) : ResultVar → Value → Prop
  | .tmp t, v => lk ρ t = some v
  | .cell a _, v => ∃ b cs ty, lk ρ a = some (.pointer (some ⟨b, 0, none⟩)) ∧ Own.box b cs ty ∈ B ∧ v.cells = cs.toArray

theorem apart_of {B : List Own} (h : B.Pairwise Apart) {x y : Own} (hx : x ∈ B) (hy : y ∈ B) : x = y ∨ Apart x y := by
  induction h with
  | nil => cases hx
  | cons h1 _ ih =>
    cases hx with
    | head => cases hy with
      | head => exact .inl rfl
      | tail _ hy => exact .inr (h1 _ hy)
    | tail _ hx => cases hy with
      | head => exact .inr fun b e e' => h1 _ hx b e' e
      | tail _ hy => exact ih hx hy

theorem putObj_other {w : World} {l k : Nat} {o : Obj} (h : k ≠ l) : (w.putObj l o).heap[k]? = w.heap[k]? := World.putObj_heap_other h

/-- The marks taken up: the world behind. -/
theorem leaves_marks {P : Program} {fn : Func} {tmps : Array Value} {R : Ending → World → Prop} : ∀ (B : List Own) (w : World), Sep B w →
    (∀ w', w'.heap.size = w.heap.size → Io w w' → (∀ b, (∀ o ∈ B, o = .mark b → False) → w'.heap[b]? = w.heap[b]?) → ∃ v, (results fn tmps).run P w' = .ok v w' ∧ R (.returned v) w') →
    LeavesInM (Fr none) 0 P fn tmps R (marks B) .returning w := by
  intro B
  induction B with
  | nil => intro w _ h; exact h w rfl (Io.refl w) fun _ _ => rfl
  | cons x r ih =>
    intro w hsep h
    have hr : Sep r w := ⟨fun o ho => hsep.holds o (.tail _ ho), (List.pairwise_cons.1 hsep.apart).2⟩
    cases x with
    | mark d =>
      have hd : w.heap[d]? = some (.deferred (some [])) := hsep.holds _ (.head _)
      refine ⟨by simp, .inl ⟨d, w.putObj d (.deferred none), rfl, run_takeDeferred hd, ?_⟩⟩
      refine ih _ (hr.keep fun b hb => putObj_other fun e => ?_) fun w' h1 hi h2 => h w' (by rw [h1]; simp [World.putObj]) (Io.trans ⟨rfl, rfl, rfl⟩ hi) fun b hb => ?_
      · subst e
        obtain ⟨o, ho, hb⟩ := hb
        exact (List.pairwise_cons.1 hsep.apart).1 o ho b rfl hb
      · rw [h2 b fun o ho => hb o (.tail _ ho)]
        exact putObj_other fun e => hb _ (.head _) (by rw [e])
    | box b cs ty => exact ih w hr fun w' h1 hi h2 => h w' h1 hi fun b' hb => h2 b' fun o ho => hb o (.tail _ ho)
    | row v n xs ty sz => exact ih w hr fun w' h1 hi h2 => h w' h1 hi fun b' hb => h2 b' fun o ho => hb o (.tail _ ho)
    | obj b o => exact ih w hr fun w' h1 hi h2 => h w' h1 hi fun b' hb => h2 b' fun o ho => hb o (.tail _ ho)

section
variable {c : Ctx} {ρ : List (Nat × Value)} {B B0 B' : List Own} {Φ Φ' : List Res} {Ψ : List JR} {fn : Func} {post : PostC}

theorem sp_end {v : Value} (hc : c.r = none) (hres : ∀ a w, St c ρ B Φ Ψ a w → (∀ w', (∀ o ∈ B, marks [o] = [] → o.holds w') → (results fn a.tmps).run c.P w' = .ok v w'))
    (hK : c.K = blks B0) (hY : c.Y = NoAv) (hp : post v B' Φ') (hB : B'.Sublist B) (hm : marks B' = []) (hΦ : ∀ φ ∈ Φ', φ ∈ Φ) : ∀ a w, St c ρ B Φ Ψ a w → LeavesInM (Fr none) 0 c.P fn a.tmps (fun e w' => ∃ v B' Φ', e = .returned v ∧ post v B' Φ' ∧ marks B' = [] ∧ Sep B' w' ∧ (∀ b, blks B' b → ¬ c.X b ∧ (blks B0 b ∨ c.w0.heap.size ≤ b)) ∧
      (∀ φ ∈ Φ', φ.p (Or' c.X (blks B')) w') ∧ (c.w0.heap.size ≤ w'.heap.size ∧ Io c.w0 w') ∧ ∀ b, b < c.w0.heap.size → ¬ blks B0 b → w'.heap[b]? = c.w0.heap[b]?) a.defers .returning w := by
  intro a w hs
  obtain ⟨V, U, M, m⟩ := hs.mem
  rw [hs.dfr, show dfs c B = marks B by unfold dfs; rw [hc]]
  refine leaves_marks B w m.sep fun w' h1 hi h2 => ?_
  have hkeep : ∀ o ∈ B, marks [o] = [] → ∀ b, o.blk = some b → w'.heap[b]? = w.heap[b]? := fun o ho hmo b hb => h2 b fun o' ho' e => by
    subst e
    by_cases e : o = Own.mark b
    · subst e; cases hmo
    · have := apart_of m.sep.apart ho ho'
      rcases this with h | h
      · exact e h
      · exact h b hb rfl
  have hhold : ∀ o ∈ B, marks [o] = [] → o.holds w' := fun o ho hmo => Own.keep (m.sep.holds o ho) (hkeep o ho hmo)
  have hmarks : ∀ (L : List Own), marks L = [] → ∀ o ∈ L, marks [o] = [] := by
    intro L
    induction L with
    | nil => intro _ o ho; cases ho
    | cons x r ih =>
      intro h o ho
      rw [marks_cons] at h
      have h' := List.append_eq_nil_iff.1 h
      cases ho with
      | head => exact h'.1
      | tail _ ho => exact ih h'.2 o ho
  have hsub : ∀ o ∈ B', o ∈ B := fun o ho => hB.subset ho
  have hbl : ∀ b, blks B' b → blks B b := fun b ⟨o, ho, e⟩ => ⟨o, hsub o ho, e⟩
  have hout : ∀ b, ¬ blks B b → w'.heap[b]? = w.heap[b]? := fun b hb => h2 b fun o ho e => hb ⟨o, ho, by subst e; rfl⟩
  refine ⟨v, hres a w hs w' hhold, v, B', Φ', rfl, hp, hm, ⟨fun o ho => hhold o (hsub o ho) (hmarks B' hm o ho), m.sep.apart.sublist hB⟩, fun b h => ?_, fun φ hφ => ?_, ⟨by rw [h1]; exact m.sz, m.io.trans hi⟩, fun b h3 h4 => ?_⟩
  · obtain ⟨h5, h6, _⟩ := m.own b (hbl b h)
    exact ⟨h6, by rw [← hK]; exact h5⟩
  · refine φ.st ⟨by omega, fun b _ hn => hout b fun h => hn (m.vb b h), fun b _ h => ?_⟩ (m.phi φ (hΦ φ hφ))
    rcases h with h | h
    · exact m.vx b h
    · exact m.vb b (hbl b h)
  · refine Eq.trans (hout b fun h => ?_) (m.frame b h3 (by rw [hK]; exact h4) (by rw [hY]; exact fun h => h))
    rcases (m.own b h).1 with h' | h'
    · rw [hK] at h'; exact h4 h'
    · omega

theorem results_one {fn : Func} {t : Tmp} {v : Value} {P : Program} (h : fn.results = #[.tmp t]) {tmps : Array Value} (ht : tmps.getD t undef = v) (w : World) : (results fn tmps).run P w = .ok v w := by
  have ht' : tmps[t]?.getD undef = v := by rw [← Array.getD_eq_getD_getElem?]; exact ht
  simp [results, h, ht']

theorem sp_ret1 {t : Nat} {v : Value} (hc : c.r = none) (hr : fn.results = #[.tmp t]) (hx : lk ρ t = some v) (hK : c.K = blks B0) (hY : c.Y = NoAv) (hp : post v B' Φ') (hB : B'.Sublist B) (hm : marks B' = []) (hΦ : ∀ φ ∈ Φ', φ ∈ Φ) : SP c ρ B Φ Ψ .ret (FQ c fn B0 post) :=
  sp_end (B' := B') (v := v) hc (fun _ _ hs w' _ => results_one hr (hs.reg t v hx) w') hK hY hp hB hm hΦ
theorem sp_end1 {t : Nat} {v : Value} (hc : c.r = none) (hr : fn.results = #[.tmp t]) (hx : lk ρ t = some v) (hK : c.K = blks B0) (hY : c.Y = NoAv) (hp : post v B' Φ') (hB : B'.Sublist B) (hm : marks B' = []) (hΦ : ∀ φ ∈ Φ', φ ∈ Φ) : SP c ρ B Φ Ψ .normal (FQ c fn B0 post) :=
  sp_end (B' := B') (v := v) hc (fun _ _ hs w' _ => results_one hr (hs.reg t v hx) w') hK hY hp hB hm hΦ
end

end Go.Proofs.YtjahiohlekdhoaaDoor

namespace Go.Proofs.YtjahiohlekdhoaaDoor
open Go

theorem tSl_inv {P : Program} {t e s b : Nat} (h : tSl P t = some (e, s, b)) : P.underlying t = some (.slice e) ∧ ∃ i, P.info? e = some i ∧ i.size = s ∧ i.bytes = b := by
  unfold tSl at h
  split at h
  · rename_i e' hu
    split at h
    · rename_i i hi
      cases h
      exact ⟨hu, i, hi, rfl, rfl⟩
    · cases h
  · cases h
theorem tAr_inv {P : Program} {t n e s : Nat} (h : tAr P t = some (n, e, s)) : P.underlying t = some (.array n e) ∧ ∃ i, P.info? e = some i ∧ i.size = s := by
  unfold tAr at h
  split at h
  · rename_i n' e' hu
    split at h
    · rename_i i hi
      cases h
      exact ⟨hu, i, hi, rfl⟩
    · cases h
  · cases h

def pAt (ba : Option Addr) (k : Nat) : Value := .pointer (ba.map (·.add k))

/-- A list's part, of a length, from a place on. -/
def part' (cs : List Value) (o n : Nat) : List Value := (cs.drop o).take n
theorem part'_get {cs : List Value} {o n j : Nat} {v : Value} (h : (part' cs o n)[j]? = some v) : j < n ∧ cs[o + j]? = some v := by
  unfold part' at h
  rw [List.getElem?_take] at h
  split at h
  · rename_i hl; exact ⟨hl, by simpa using h⟩
  · cases h

section
variable {c : Ctx} {ρ : List (Nat × Value)} {B B' Br : List Own} {Φ : List Res} {Ψ : List JR} {ops : Array Oper} {rest : List Oper} {Q : Post} {d ty t : Nat} {ps : String} {af : Array Edge} {x y z : Operand} {v u : Value}
  {ba : Option Addr} {n cap : Nat} {cs : List Value} {m : Int} {kk : IntKind} {e sz by' : Nat}

theorem mem_of {V U M : Av} {w : World} (m : MS c B Φ Ψ V U M w) {φ : Res} (h : φ ∈ Φ) : φ.p V w := m.phi φ h

/-! ### Lengths -/
theorem r_len {at' : Nat} (ht : tSl c.P at' = some (e, sz, by') := by exact tl rfl) (hx : ev ρ x = some (.slice ba n cap) := by exact rfl) (hb : Nat.blt d c.nt = true := by exact rfl) (k : SL c ((d, .int .i64 n) :: ρ) B Φ Ψ ops rest Q) :
    SL c ρ B Φ Ψ ops (⟨some d, .call ⟨.builtin .len, #[x], #[at']⟩, ty, ps, af, none⟩ :: rest) Q :=
  r_val rfl (fun _ => by simp) rfl hb (fun a w hs => by
    obtain ⟨hu, _⟩ := tSl_inv ht
    simp [execOp, resolve, invoke, builtin, hs.ev hx, Builtin.len_, run_underlying hu, goInt]) k
theorem r_cap {at' : Nat} (ht : tSl c.P at' = some (e, sz, by') := by exact tl rfl) (hx : ev ρ x = some (.slice ba n cap) := by exact rfl) (hb : Nat.blt d c.nt = true := by exact rfl) (k : SL c ((d, .int .i64 cap) :: ρ) B Φ Ψ ops rest Q) :
    SL c ρ B Φ Ψ ops (⟨some d, .call ⟨.builtin .cap, #[x], #[at']⟩, ty, ps, af, none⟩ :: rest) Q :=
  r_val rfl (fun _ => by simp) rfl hb (fun a w hs => by
    obtain ⟨hu, _⟩ := tSl_inv ht
    simp [execOp, resolve, invoke, builtin, hs.ev hx, Builtin.cap_, run_underlying hu, goInt]) k

/-! ### Elements -/
theorem r_idx {i : Nat} (ht : tSl c.P t = some (e, sz, by') := by exact tl rfl) (hx : ev ρ x = some (.slice ba n cap) := by exact rfl) (hy : ev ρ y = some (.int kk m) := by exact rfl) (h0 : 0 ≤ m := by omega) (h1 : m < n := by omega) (hm : Res.mem ba cs ∈ Φ := by iterate 24 (first | exact .head _ | apply List.Mem.tail | skip)) (hl : n * sz ≤ cs.length := by first | (simp [bv]; done) | (simp [bv]; omega)) (hz : Nat.beq sz 0 = false := by exact rfl) (hi : m.toNat = i := by first | exact Int.toNat_natCast _ | exact rfl)
    (hb : Nat.blt d c.nt = true := by exact rfl) (k : SL c ((d, pAt ba (i * sz)) :: ρ) B Φ Ψ ops rest Q) : SL c ρ B Φ Ψ ops (⟨some d, .indexAddr t x y, ty, ps, af, none⟩ :: rest) Q :=
  r_val rfl (fun _ => by simp) rfl hb (fun a w hs => by
    obtain ⟨hu, ii, hii, hsz, _⟩ := tSl_inv ht
    obtain ⟨V, U, M, ms⟩ := hs.mem
    have hsz0 : ¬ sz = 0 := ne_of_beq hz
    have hlt : 0 < cs.length := by
      have : 1 * 1 ≤ n * sz := Nat.mul_le_mul (by omega) (by omega)
      omega
    obtain ⟨ad, rfl, _, _⟩ := ms.phi _ hm 0 _ (List.getElem?_eq_getElem hlt)
    subst hi
    simp [execOp, hs.ev hx, hs.ev hy, Instr.indexAt, asIntOf, run_underlying hu, h0, h1, sizeOf, typeInfo, hii, hsz, pAt]) k

/-- An element of an array of one's own: its address. -/
theorem r_idx_arr {b off len i : Nat} (ht : tAr c.P t = some (len, e, sz) := by exact ta rfl) (hx : ev ρ x = some (.pointer (some ⟨b, off, none⟩)) := by exact rfl) (hy : ev ρ y = some (.int kk m) := by exact rfl) (h0 : 0 ≤ m := by omega) (h1 : m < len := by omega) (hi : m.toNat = i := by first | exact Int.toNat_natCast _ | exact rfl)
    (hb : Nat.blt d c.nt = true := by exact rfl) (k : SL c ((d, .pointer (some ⟨b, off + i * sz, none⟩)) :: ρ) B Φ Ψ ops rest Q) : SL c ρ B Φ Ψ ops (⟨some d, .indexAddr t x y, ty, ps, af, none⟩ :: rest) Q :=
  r_val rfl (fun _ => by simp) rfl hb (fun a w hs => by
    obtain ⟨hu, ii, hii, hsz⟩ := tAr_inv ht
    subst hi
    simp [execOp, hs.ev hx, hs.ev hy, Instr.indexAt, Instr.sureAddr, asIntOf, run_underlying hu, h0, h1, sizeOf, typeInfo, hii, hsz, addr_add]) k

theorem mem_cells {V : Av} {w : World} {o n : Nat} {vs : List Value} (h : (Res.mem ba cs).p V w) (hv : part' cs o n = vs) (hn : Nat.blt 0 n = true) (hl : vs.length = n) :
    ∃ a, ba = some a ∧ ∀ j v, vs[j]? = some v → w.cell? ((a.add o).add j) = some v := by
  have hn' : 0 < n := by simpa [Nat.blt_eq] using hn
  have h0 : 0 < vs.length := by omega
  obtain ⟨h1, h2⟩ := part'_get (v := vs[0]) (j := 0) (by rw [hv]; exact List.getElem?_eq_getElem h0)
  obtain ⟨a, ha, _, _⟩ := h _ _ h2
  refine ⟨a, ha, fun j v hj => ?_⟩
  obtain ⟨h3, h4⟩ := part'_get (v := v) (j := j) (by rw [hv]; exact hj)
  obtain ⟨a', ha', _, hc⟩ := h _ _ h4
  rw [ha] at ha'; cases ha'
  rw [add_add]; exact hc

theorem r_load_mem {o s : Nat} {vs : List Value} (ht : tSz c.P t = some (true, s) := by exact tz rfl) (hx : ev ρ x = some (pAt ba o) := by exact rfl) (hm : Res.mem ba cs ∈ Φ := by iterate 24 (first | exact .head _ | apply List.Mem.tail | skip)) (hv : part' cs o s = vs := by exact rfl) (hn : Nat.blt 0 s = true := by exact rfl) (hl : vs.length = s := by exact rfl)
    (hb : Nat.blt d c.nt = true := by exact rfl) (k : SL c ((d, .agg vs.toArray) :: ρ) B Φ Ψ ops rest Q) : SL c ρ B Φ Ψ ops (⟨some d, .load t x, ty, ps, af, none⟩ :: rest) Q :=
  r_val rfl (fun _ => by simp) rfl hb (fun a w hs => by
    obtain ⟨V, U, M, ms⟩ := hs.mem
    obtain ⟨ad, rfl, hc⟩ := mem_cells (ms.phi _ hm) hv hn hl
    simp [execOp, hs.ev hx, pAt, Instr.loadAt, Instr.sureAddr, run_loadVar_agg ht hl hc]) k
theorem r_load_mem1 {o s : Nat} (ht : tSz c.P t = some (false, s) := by exact tz rfl) (hx : ev ρ x = some (pAt ba o) := by exact rfl) (hm : Res.mem ba cs ∈ Φ := by iterate 24 (first | exact .head _ | apply List.Mem.tail | skip)) (hv : cs[o]? = some v := by exact rfl)
    (hb : Nat.blt d c.nt = true := by exact rfl) (k : SL c ((d, v) :: ρ) B Φ Ψ ops rest Q) : SL c ρ B Φ Ψ ops (⟨some d, .load t x, ty, ps, af, none⟩ :: rest) Q :=
  r_val rfl (fun _ => by simp) rfl hb (fun a w hs => by
    obtain ⟨V, U, M, ms⟩ := hs.mem
    obtain ⟨ad, rfl, _, hc⟩ := ms.phi _ hm _ _ hv
    simp [execOp, hs.ev hx, pAt, Instr.loadAt, Instr.sureAddr, run_loadVar_one ht hc]) k
/-- The same of a variable that changes no more. -/
theorem r_load_fr {b o s : Nat} {vs : List Value} (ht : tSz c.P t = some (true, s) := by exact tz rfl) (hx : ev ρ x = some (.pointer (some ⟨b, o, none⟩)) := by exact rfl) (hm : Res.mem (some ⟨b, 0, none⟩) cs ∈ Φ := by iterate 24 (first | exact .head _ | apply List.Mem.tail | skip)) (hv : part' cs o s = vs := by exact rfl) (hn : Nat.blt 0 s = true := by exact rfl) (hl : vs.length = s := by exact rfl)
    (hb : Nat.blt d c.nt = true := by exact rfl) (k : SL c ((d, .agg vs.toArray) :: ρ) B Φ Ψ ops rest Q) : SL c ρ B Φ Ψ ops (⟨some d, .load t x, ty, ps, af, none⟩ :: rest) Q :=
  r_load_mem (ba := some ⟨b, 0, none⟩) ht (by rw [hx, pAt, Option.map_some, addr_add, Nat.zero_add]) hm hv hn hl hb k
theorem r_load_fr1 {b o s : Nat} (ht : tSz c.P t = some (false, s) := by exact tz rfl) (hx : ev ρ x = some (.pointer (some ⟨b, o, none⟩)) := by exact rfl) (hm : Res.mem (some ⟨b, 0, none⟩) cs ∈ Φ := by iterate 24 (first | exact .head _ | apply List.Mem.tail | skip)) (hv : cs[o]? = some v := by exact rfl)
    (hb : Nat.blt d c.nt = true := by exact rfl) (k : SL c ((d, v) :: ρ) B Φ Ψ ops rest Q) : SL c ρ B Φ Ψ ops (⟨some d, .load t x, ty, ps, af, none⟩ :: rest) Q :=
  r_load_mem1 (ba := some ⟨b, 0, none⟩) ht (by rw [hx, pAt, Option.map_some, addr_add, Nat.zero_add]) hm hv hb k
theorem r_fieldAddr_mem {o f s i : Nat} {ag : Bool} (ht : tFd c.P t i = some (f, ag, s)) (hs0 : Nat.beq s 0 = false) (hx : ev ρ x = some (pAt ba o)) (hm : Res.mem ba cs ∈ Φ) (hl : o < cs.length) (hb : Nat.blt d c.nt = true)
    (k : SL c ((d, pAt ba (o + f)) :: ρ) B Φ Ψ ops rest Q) : SL c ρ B Φ Ψ ops (⟨some d, .fieldAddr t x i, ty, ps, af, none⟩ :: rest) Q :=
  r_val rfl (fun _ => by simp) rfl hb (fun a w hs => by
    obtain ⟨V, U, M, ms⟩ := hs.mem
    obtain ⟨ad, rfl, _, _⟩ := ms.phi _ hm o _ (List.getElem?_eq_getElem hl)
    unfold tFd at ht
    split at ht
    · rename_i fs hu
      split at ht
      · rename_i fl hf
        split at ht
        · rename_i ag' s' hsz
          cases ht
          have hne : ¬ s = 0 := ne_of_beq hs0
          simp [execOp, hs.ev hx, Instr.fieldAt, run_underlying hu, hf, Instr.sureAddr, fieldPlace, run_sizeOf hsz, hne, pAt, add_add]
        · cases ht
      · cases ht
    · cases ht) k

/-! ### Facts of the state taken apart, made -/
theorem f_ex {α : Type} {f : α → Res} (k : ∀ i, SL c ρ B (f i :: Φ) Ψ ops rest Q) : SL c ρ B (Res.ex f :: Φ) Ψ ops rest Q := fun a w hs => by
  obtain ⟨V, U, M, m⟩ := hs.mem
  obtain ⟨i, hi⟩ := m.phi _ (.head _)
  exact k i a w ⟨hs.nt, hs.reg, hs.dfr, V, U, M, { m with phi := List.forall_mem_cons.2 ⟨hi, fun φ h => m.phi φ (.tail _ h)⟩ }⟩
theorem f_and {p q : Res} (k : SL c ρ B (p :: q :: Φ) Ψ ops rest Q) : SL c ρ B (Res.and p q :: Φ) Ψ ops rest Q := fun a w hs => by
  obtain ⟨V, U, M, m⟩ := hs.mem
  obtain ⟨h1, h2⟩ := m.phi _ (.head _)
  exact k a w ⟨hs.nt, hs.reg, hs.dfr, V, U, M, { m with phi := List.forall_mem_cons.2 ⟨h1, List.forall_mem_cons.2 ⟨h2, fun φ h => m.phi φ (.tail _ h)⟩⟩ }⟩
theorem f_pure {p : Prop} (k : p → SL c ρ B Φ Ψ ops rest Q) : SL c ρ B (Res.pure p :: Φ) Ψ ops rest Q := fun a w hs => by
  obtain ⟨V, U, M, m⟩ := hs.mem
  exact k (m.phi _ (.head _)) a w ⟨hs.nt, hs.reg, hs.dfr, V, U, M, { m with phi := fun φ hφ => m.phi φ (.tail _ hφ) }⟩
/-- A fact that the others entail. -/
theorem f_have {φ : Res} (h : ∀ V w, (∀ ψ ∈ Φ, ψ.p V w) → φ.p V w) (k : SL c ρ B (φ :: Φ) Ψ ops rest Q) : SL c ρ B Φ Ψ ops rest Q := fun a w hs => by
  obtain ⟨V, U, M, m⟩ := hs.mem
  exact k a w ⟨hs.nt, hs.reg, hs.dfr, V, U, M, { m with phi := List.forall_mem_cons.2 ⟨h V w m.phi, m.phi⟩ }⟩
/-- The facts, others in their place, that they entail. -/
theorem f_set (Φ' : List Res) (h : ∀ V w, (∀ ψ ∈ Φ, ψ.p V w) → ∀ φ ∈ Φ', φ.p V w) (k : SL c ρ B Φ' Ψ ops rest Q) : SL c ρ B Φ Ψ ops rest Q := fun a w hs => by
  obtain ⟨V, U, M, m⟩ := hs.mem
  exact k a w ⟨hs.nt, hs.reg, hs.dfr, V, U, M, { m with phi := fun ψ hψ => h V w m.phi ψ hψ }⟩
theorem f_g (k : SL c ρ B (c.G :: Φ) Ψ ops rest Q) : SL c ρ B Φ Ψ ops rest Q := fun a w hs => by
  obtain ⟨V, U, M, m⟩ := hs.mem
  exact k a w ⟨hs.nt, hs.reg, hs.dfr, V, U, M, { m with phi := List.forall_mem_cons.2 ⟨m.g, m.phi⟩ }⟩

/-! The same at code. -/
theorem sw_of_sl {code : Code} (h : ∀ {Q' : Post} (ops : Array Oper), (∀ a w, Q' .normal a w → code.wpIn (Fr c.r) 0 c.P Q a w) → SL c ρ B Φ Ψ ops [] Q') : SW c ρ B Φ Ψ code Q :=
  fun a w hs => h (Q' := fun _ a w => code.wpIn (Fr c.r) 0 c.P Q a w) #[] (fun _ _ h => h) a w hs
theorem sl_to_sw {code : Code} {ρ' : List (Nat × Value)} {B' : List Own} {Φ' : List Res} (h : ∀ {Q' : Post}, SL c ρ' B' Φ' Ψ #[] [] Q' → SL c ρ B Φ Ψ #[] [] Q') (k : SW c ρ' B' Φ' Ψ code Q) : SW c ρ B Φ Ψ code Q :=
  fun a w hs => h (Q' := fun _ a w => code.wpIn (Fr c.r) 0 c.P Q a w) (fun a w hs => k a w hs) a w hs
theorem w_ex {α : Type} {f : α → Res} {code : Code} (k : ∀ i, SW c ρ B (f i :: Φ) Ψ code Q) : SW c ρ B (Res.ex f :: Φ) Ψ code Q :=
  fun a w hs => f_ex (ops := #[]) (rest := []) (Q := fun _ a w => code.wpIn (Fr c.r) 0 c.P Q a w) (fun i a w hs => k i a w hs) a w hs
theorem w_and {p q : Res} {code : Code} (k : SW c ρ B (p :: q :: Φ) Ψ code Q) : SW c ρ B (Res.and p q :: Φ) Ψ code Q := sl_to_sw (fun h => f_and h) k
theorem w_pure {p : Prop} {code : Code} (k : p → SW c ρ B Φ Ψ code Q) : SW c ρ B (Res.pure p :: Φ) Ψ code Q :=
  fun a w hs => f_pure (ops := #[]) (rest := []) (Q := fun _ a w => code.wpIn (Fr c.r) 0 c.P Q a w) (fun i a w hs => k i a w hs) a w hs
theorem w_set (Φ' : List Res) {code : Code} (h : ∀ V w, (∀ ψ ∈ Φ, ψ.p V w) → ∀ φ ∈ Φ', φ.p V w) (k : SW c ρ B Φ' Ψ code Q) : SW c ρ B Φ Ψ code Q := sl_to_sw (fun h' => f_set Φ' h h') k

/-! ### From an own block to a fact; rows out of nothing -/
theorem Sep.tail {o : Own} {r : List Own} {w : World} (h : Sep (o :: r) w) : Sep r w := ⟨fun q hq => h.holds q (.tail _ hq), (List.pairwise_cons.1 h.apart).2⟩

theorem MS.drop {V U M : Av} {w : World} {o : Own} {φ : Res} (m : MS c (o :: B) Φ Ψ V U M w) (hφ : ∀ V', (∀ b, o.blk = some b → ¬ V' b) → φ.p V' w) : ∃ V' U', MS c B (φ :: Φ) Ψ V' U' M w := by
  have hd : ∀ b, blks B b → o.blk ≠ some b := fun b ⟨q, hq, e⟩ h => (List.pairwise_cons.1 m.sep.apart).1 q hq b h e
  refine ⟨fun b => V b ∧ o.blk ≠ some b, fun b => U b, ⟨fun b h => ⟨m.vx b h, fun h' => (m.own b ⟨o, .head _, h'⟩).2.1 h⟩, fun b h => ⟨m.vm b h, fun h' => (m.own b ⟨o, .head _, h'⟩).2.2 h⟩, fun b h => ⟨m.vb b ?_, hd b h⟩, fun b h => m.vlt b h.1, fun b h => m.ub b ?_, m.ult, m.sep.tail,
    fun b h => m.own b ?_, fun ψ hψ => ?_, m.psi, c.G.less m.g fun b h => h.1, m.sz, m.frame, m.xlt, m.mo, m.io⟩⟩
  · obtain ⟨q, hq, e⟩ := h; exact ⟨q, .tail _ hq, e⟩
  · obtain ⟨q, hq, e⟩ := h; exact ⟨q, .tail _ hq, e⟩
  · obtain ⟨q, hq, e⟩ := h; exact ⟨q, .tail _ hq, e⟩
  · cases hψ with
    | head => exact hφ _ fun b hb h => h.2 hb
    | tail _ h => exact ψ.less (m.phi ψ h) fun b h => h.1

/-- A variable of one's own that changes no more. -/
theorem o_freeze {b : Nat} {bt : TypeId} (k : SL c ρ B (Res.mem (some ⟨b, 0, none⟩) cs :: Φ) Ψ ops rest Q) : SL c ρ (.box b cs bt :: B) Φ Ψ ops rest Q := fun a w hs => by
  obtain ⟨V, U, M, m⟩ := hs.mem
  have hh := m.sep.holds _ (.head _)
  obtain ⟨V', U', m'⟩ := m.drop (φ := Res.mem (some ⟨b, 0, none⟩) cs) fun V' hV i v hv => ⟨_, rfl, hV b rfl, by rw [addr_add, box_cell hh, Nat.zero_add]; exact hv⟩
  exact k a w ⟨hs.nt, hs.reg, hs.dfr, V', U', M, m'⟩
/-- A row of one's own that changes no more: a slice. -/
theorem o_row {xs : List Value} (k : ∀ ba cap, v = .slice ba n cap → n ≤ cap → cap ≤ maxLen → xs.length = n * sz → SL c ρ B (Res.mem ba xs :: Φ) Ψ ops rest Q) : SL c ρ (.row v n xs e sz :: B) Φ Ψ ops rest Q := fun a w hs => by
  obtain ⟨V, U, M, m⟩ := hs.mem
  have hh : w.ownsRow 0 e sz v n xs := m.sep.holds _ (.head _)
  obtain ⟨hlen, hh2⟩ := hh
  rcases hh2 with ⟨rfl, rfl⟩ | ⟨g, cap, cur, rfl, _, hg, hnc, hcm, hcs, htake⟩
  · have hx : xs = [] := List.eq_nil_of_length_eq_zero (by simpa using hlen)
    subst hx
    obtain ⟨V', U', m'⟩ := m.drop (φ := Res.mem none []) fun V' hV i v hv => by simp at hv
    exact k none 0 rfl (Nat.le_refl _) (Nat.zero_le _) hlen a w ⟨hs.nt, hs.reg, hs.dfr, V', U', M, m'⟩
  · obtain ⟨V', U', m'⟩ := m.drop (φ := Res.mem (some ⟨g, 0, none⟩) xs) fun V' hV i v hv => ⟨_, rfl, hV g rfl, by
      rw [addr_add, Nat.zero_add, cell_of_row w g i cur e (0, 0) hg]
      rw [← htake, List.getElem?_take] at hv
      split at hv
      · simpa using hv
      · cases hv⟩
    exact k _ cap rfl hnc hcm hlen a w ⟨hs.nt, hs.reg, hs.dfr, V', U', M, m'⟩
theorem wo_freeze {b : Nat} {bt : TypeId} {code : Code} (k : SW c ρ B (Res.mem (some ⟨b, 0, none⟩) cs :: Φ) Ψ code Q) : SW c ρ (.box b cs bt :: B) Φ Ψ code Q := sl_to_sw (fun h => o_freeze h) k
theorem wo_row {xs : List Value} {code : Code} (k : ∀ ba cap, v = .slice ba n cap → n ≤ cap → cap ≤ maxLen → xs.length = n * sz → SW c ρ B (Res.mem ba xs :: Φ) Ψ code Q) : SW c ρ (.row v n xs e sz :: B) Φ Ψ code Q :=
  fun a w hs => o_row (ops := #[]) (rest := []) (Q := fun _ a w => code.wpIn (Fr c.r) 0 c.P Q a w) (fun ba cap h1 h2 h3 h4 a w hs => k ba cap h1 h2 h3 h4 a w hs) a w hs

/-- A nil slice is a row of one's own. -/
theorem o_nil (e sz : Nat) (k : SL c ρ (.row (.slice none 0 0) 0 [] e sz :: B) Φ Ψ ops rest Q) : SL c ρ B Φ Ψ ops rest Q := fun a w hs => by
  obtain ⟨V, U, M, m⟩ := hs.mem
  have hbl : ∀ b, blks (.row (.slice none 0 0) 0 [] e sz :: B) b ↔ blks B b := fun b => by simp [blks, Own.blk, Value.ownBlock]
  refine k a w ⟨hs.nt, hs.reg, hs.dfr, V, U, M, ⟨m.vx, m.vm, fun b h => m.vb b ((hbl b).1 h), m.vlt, fun b h => m.ub b ((hbl b).1 h), m.ult, ⟨fun q hq => ?_, .cons (fun q _ b h => by simp [Own.blk, Value.ownBlock] at h) m.sep.apart⟩, fun b h => m.own b ((hbl b).1 h), m.phi, m.psi, m.g, m.sz, m.frame, m.xlt, m.mo, m.io⟩⟩
  cases hq with
  | head => exact World.ownsRow_nil w 0 e sz
  | tail _ h => exact m.sep.holds q h
theorem wo_nil (e sz : Nat) {code : Code} (k : SW c ρ (.row (.slice none 0 0) 0 [] e sz :: B) Φ Ψ code Q) : SW c ρ B Φ Ψ code Q := sl_to_sw (fun h => o_nil e sz h) k

/-- Own blocks in another order. -/
theorem o_perm {B' : List Own} (hp : B'.Perm B) (k : SL c ρ B' Φ Ψ ops rest Q) (hm : marks B' = marks B) : SL c ρ B Φ Ψ ops rest Q := fun a w hs => by
  obtain ⟨V, U, M, m⟩ := hs.mem
  have hbl : ∀ b, blks B' b → blks B b := fun b ⟨q, hq, e⟩ => ⟨q, hp.subset hq, e⟩
  exact k a w ⟨hs.nt, hs.reg, hs.dfr.trans (dfs_of hm).symm, V, U, M, ⟨m.vx, m.vm, fun b h => m.vb b (hbl b h), m.vlt, fun b h => m.ub b (hbl b h), m.ult, ⟨fun q hq => m.sep.holds q (hp.subset hq), m.sep.apart.perm hp.symm (fun {x y} h b h1 h2 => h b h2 h1)⟩, fun b h => m.own b (hbl b h), m.phi, m.psi, m.g, m.sz, m.frame, m.xlt, m.mo, m.io⟩⟩
/-- An own block forgotten (it changes no more, nor is it read). -/
theorem o_drop {o : Own} (hm : marks [o] = []) (k : SL c ρ B Φ Ψ ops rest Q) : SL c ρ (o :: B) Φ Ψ ops rest Q := fun a w hs => by
  obtain ⟨V, U, M, m⟩ := hs.mem
  have hbl : ∀ b, blks B b → blks (o :: B) b := fun b ⟨q, hq, e⟩ => ⟨q, .tail _ hq, e⟩
  exact k a w ⟨hs.nt, hs.reg, hs.dfr.trans (dfs_of (by rw [marks_cons, hm]; rfl)), V, U, M, ⟨m.vx, m.vm, fun b h => m.vb b (hbl b h), m.vlt, fun b h => m.ub b (hbl b h), m.ult, m.sep.tail, fun b h => m.own b (hbl b h), m.phi, m.psi, m.g, m.sz, m.frame, m.xlt, m.mo, m.io⟩⟩

/-! ### Cuts -/
def cutBase (ba : Option Addr) (l m sz : Nat) : Option Addr := if m = l then ba else ba.map (·.add (l * sz))

theorem mem_cut {V : Av} {w : World} {l h m : Nat} (hm : (Res.mem ba cs).p V w) (hlh : l ≤ h) (hhm : h ≤ m) : (Res.mem (cutBase ba l m sz) (part' cs (l * sz) ((h - l) * sz))).p V w := by
  intro i v hv
  obtain ⟨h1, h2⟩ := part'_get hv
  obtain ⟨a, rfl, hn, hc⟩ := hm _ _ h2
  unfold cutBase
  split
  · rename_i e
    have : h - l = 0 := by omega
    rw [this, Nat.zero_mul] at h1
    omega
  · exact ⟨a.add (l * sz), rfl, by rw [add_block]; exact hn, by rw [add_add]; exact hc⟩

/-- 'x[lo:hi]', 'x[lo:]', 'x[:hi]', 'x[:]' of a slice. -/
theorem r_cut {lo hi : Option Operand} {l h : Nat} (ht : tSl c.P t = some (e, sz, by')) (hx : ev ρ x = some (.slice ba n cap)) (hm : Res.mem ba cs ∈ Φ)
    (hlo : match lo with | none => l = 0 | some o => ∃ k, ev ρ o = some (.int k l)) (hhi : match hi with | none => h = n | some o => ∃ k, ev ρ o = some (.int k h)) (hlh : l ≤ h) (hhn : h ≤ n) (hnc : n ≤ cap)
    (hb : Nat.blt d c.nt = true) (k : SL c ((d, .slice (cutBase ba l cap sz) (h - l) (cap - l)) :: ρ) B (Res.mem (cutBase ba l cap sz) (part' cs (l * sz) ((h - l) * sz)) :: Φ) Ψ ops rest Q) :
    SL c ρ B Φ Ψ ops (⟨some d, .slice t x lo hi none, ty, ps, af, none⟩ :: rest) Q :=
  f_have (fun V w hΦ => mem_cut (sz := sz) (hΦ _ hm) hlh (Nat.le_trans hhn hnc)) <| r_val rfl (fun _ => by simp) rfl hb (fun a w hs => by
    obtain ⟨hu, ii, hii, hsz, _⟩ := tSl_inv ht
    have h1 : ∀ l' h' : Nat, l' ≤ h' → h' ≤ cap → ((h' : Int) ≤ cap) := fun _ _ _ h => by omega
    cases lo with
    | none =>
      simp only at hlo
      subst hlo
      cases hi with
      | none =>
        simp only at hhi
        subst hhi
        simp [execOp, hs.ev hx, Instr.sliceAt, Instr.slice, run_underlying hu, Instr.sliceBounds, sizeOf, typeInfo, hii, cutBase]
      | some o2 =>
        obtain ⟨k2, h2⟩ := hhi
        have : h ≤ cap := Nat.le_trans hhn hnc
        simp [execOp, hs.ev hx, hs.ev h2, Instr.sliceAt, Instr.slice, run_underlying hu, Instr.sliceBounds, Instr.sliceBound, asIntOf, sizeOf, typeInfo, hii, cutBase, this]
    | some o1 =>
      obtain ⟨k1, h1'⟩ := hlo
      cases hi with
      | none =>
        simp only at hhi
        subst hhi
        simp [execOp, hs.ev hx, hs.ev h1', Instr.sliceAt, Instr.slice, run_underlying hu, Instr.sliceBounds, Instr.sliceBound, asIntOf, sizeOf, typeInfo, hii, hsz, cutBase, hlh]
      | some o2 =>
        obtain ⟨k2, h2⟩ := hhi
        have : h ≤ cap := Nat.le_trans hhn hnc
        simp [execOp, hs.ev hx, hs.ev h1', hs.ev h2, Instr.sliceAt, Instr.slice, run_underlying hu, Instr.sliceBounds, Instr.sliceBound, asIntOf, sizeOf, typeInfo, hii, hsz, cutBase, hlh, this]) k

/-- 'p[lo:hi]' of an array variable. -/
theorem r_cut_arr {lo hi : Option Operand} {b l h len : Nat} (ht : tAr c.P t = some (len, e, sz)) (hx : ev ρ x = some (.pointer (some ⟨b, 0, none⟩)))
    (hlo : match lo with | none => l = 0 | some o => ∃ k, ev ρ o = some (.int k l)) (hhi : match hi with | none => h = len | some o => ∃ k, ev ρ o = some (.int k h)) (hlh : l ≤ h) (hhn : h ≤ len) (hll : l < len)
    (hb : Nat.blt d c.nt = true) (k : SL c ((d, .slice (some ⟨b, l * sz, none⟩) (h - l) (len - l)) :: ρ) B Φ Ψ ops rest Q) :
    SL c ρ B Φ Ψ ops (⟨some d, .slice t x lo hi none, ty, ps, af, none⟩ :: rest) Q :=
  r_val rfl (fun _ => by simp) rfl hb (fun a w hs => by
    obtain ⟨hu, ii, hii, hsz⟩ := tAr_inv ht
    have hne : ¬ len = l := by omega
    have hne0 : ¬ len = 0 := by omega
    cases lo with
    | none =>
      simp only at hlo
      subst hlo
      cases hi with
      | none =>
        simp only at hhi
        subst hhi
        simp [execOp, hs.ev hx, Instr.sliceAt, Instr.sureAddr, run_underlying hu, Instr.sliceBounds, sizeOf, typeInfo, hii, addr_add]
      | some o2 =>
        obtain ⟨k2, h2⟩ := hhi
        simp [execOp, hs.ev hx, hs.ev h2, Instr.sliceAt, Instr.sureAddr, run_underlying hu, Instr.sliceBounds, Instr.sliceBound, asIntOf, sizeOf, typeInfo, hii, addr_add, hhn]
    | some o1 =>
      obtain ⟨k1, h1'⟩ := hlo
      cases hi with
      | none =>
        simp only at hhi
        subst hhi
        simp [execOp, hs.ev hx, hs.ev h1', Instr.sliceAt, Instr.sureAddr, run_underlying hu, Instr.sliceBounds, Instr.sliceBound, asIntOf, sizeOf, typeInfo, hii, hsz, addr_add, hne, hlh]
      | some o2 =>
        obtain ⟨k2, h2⟩ := hhi
        simp [execOp, hs.ev hx, hs.ev h1', hs.ev h2, Instr.sliceAt, Instr.sureAddr, run_underlying hu, Instr.sliceBounds, Instr.sliceBound, asIntOf, sizeOf, typeInfo, hii, hsz, addr_add, hne, hlh, hhn]) k
/-- A frozen array's cut is a slice that is told. -/
theorem f_cut_fr {b : Nat} (l h : Nat) (hm : Res.mem (some ⟨b, 0, none⟩) cs ∈ Φ) (k : SL c ρ B (Res.mem (some ⟨b, l, none⟩) (part' cs l h) :: Φ) Ψ ops rest Q) : SL c ρ B Φ Ψ ops rest Q :=
  f_have (fun V w hΦ i v hv => by
    obtain ⟨h1, h2⟩ := part'_get hv
    obtain ⟨a, ha, hn, hc⟩ := hΦ _ hm _ _ h2
    cases ha
    exact ⟨_, rfl, hn, by rw [addr_add] at hc ⊢; rw [← hc]; congr 2; omega⟩) k

end
end Go.Proofs.YtjahiohlekdhoaaDoor

namespace Go.Proofs.YtjahiohlekdhoaaDoor
open Go

theorem fill_all {place : Nat → Option (Nat × Nat)} {sz : Nat} (hp : ∀ i, place i = some (i * sz, sz)) : ∀ (vs : List Value) (k : Nat) (pre : List Value) (cells : Array Value), (∀ v ∈ vs, v.cells.size = sz) → pre.length = k * sz → cells.size = (k + vs.length) * sz → cells.toList.take (k * sz) = pre →
    ∃ r, Instr.fill place cells ((vs.zipIdx k).map fun p => (p.2, p.1)) = some r ∧ r.toList = pre ++ vs.flatMap fun v => v.cells.toList
  | [], k, pre, cells, _, hpl, hc, ht => ⟨cells, rfl, by
    have : cells.toList.take (k * sz) = cells.toList := List.take_of_length_le (by simp; simp at hc; omega)
    simp [← ht, this]⟩
  | v :: vs, k, pre, cells, hv, hpl, hc, ht => by
    have h1 := hv v (.head _)
    have hsz : (k + (vs.length + 1)) * sz = (k + 1 + vs.length) * sz := by rw [Nat.add_assoc, Nat.add_comm vs.length 1]
    have hk1 : (k + 1) * sz = k * sz + sz := by rw [Nat.add_mul, Nat.one_mul]
    have hle : k * sz + sz ≤ cells.size := by
      rw [hc, ← hk1]; exact Nat.mul_le_mul_right _ (by simp)
    -- the part laid in
    have key : ∀ (l : List Value) (j : Nat) (cs : Array Value), k * sz + j + l.length ≤ cs.size →
        ((l.zipIdx j).foldl (fun cs p => cs.setIfInBounds (k * sz + p.2) p.1) cs).toList = cs.toList.take (k * sz + j) ++ l ++ cs.toList.drop (k * sz + j + l.length) := by
      intro l
      induction l with
      | nil => intro j cs _; simp
      | cons u l ih =>
        intro j cs hj
        simp only [List.zipIdx_cons, List.foldl_cons]
        rw [ih (j + 1) _ (by simp at hj ⊢; omega)]
        have e := list_seg_step cs.toList (k * sz + j) u l (by simp at hj ⊢; omega)
        simpa [Array.toList_setIfInBounds, Nat.add_assoc] using e
    obtain ⟨r, hr, hrl⟩ := fill_all hp vs (k + 1) (pre ++ v.cells.toList) ((v.cells.toList.zipIdx 0).foldl (fun cs p => cs.setIfInBounds (k * sz + p.2) p.1) cells) (fun u hu => hv u (.tail _ hu)) (by simp [hpl, h1, hk1]) (by
      have : ∀ (l : List (Value × Nat)) (cs : Array Value), (l.foldl (fun cs p => cs.setIfInBounds (k * sz + p.2) p.1) cs).size = cs.size := by
        intro l; induction l with
        | nil => intro cs; rfl
        | cons x l ih => intro cs; simp [ih]
      rw [this, hc]; simpa using hsz) (by
      rw [key _ 0 _ (by simpa [h1] using hle)]
      simp only [Nat.add_zero, hk1]
      rw [ht]
      rw [List.append_assoc, List.take_append, hpl]
      have : (pre : List Value).take (k * sz + sz) = pre := List.take_of_length_le (by omega)
      rw [this, show k * sz + sz - k * sz = sz by omega, List.take_append, List.take_of_length_le (by simp [h1]), show sz - v.cells.toList.length = 0 by simp [h1]]
      simp)
    refine ⟨r, ?_, by simp [hrl, List.flatMap_cons]⟩
    rw [List.zipIdx_cons, List.map_cons, Instr.fill]
    simp only [hp]
    rw [if_neg (by have h2 : ¬ cells.size < k * sz + v.cells.size := Nat.not_lt.2 (by rw [h1]; exact hle); simp [h1]; rw [h1] at h2; omega)]
    have e : v.cells.zipIdx.foldl (fun cs x => cs.setIfInBounds (k * sz + x.2) x.1) cells = (v.cells.toList.zipIdx 0).foldl (fun cs p => cs.setIfInBounds (k * sz + p.2) p.1) cells := by
      rw [← Array.foldl_toList, Array.toList_zipIdx]
    rw [← e] at hr
    exact hr

section
variable {c : Ctx} {ρ : List (Nat × Value)} {B B' Br : List Own} {Φ : List Res} {Ψ : List JR} {ops : Array Oper} {rest : List Oper} {Q : Post} {d ty t : Nat} {ps : String} {af : Array Edge} {x y z : Operand} {v u z0 : Value}
  {ba : Option Addr} {n cap : Nat} {cs : List Value} {m : Int} {kk : IntKind} {e sz by' : Nat}

/-- What is new in memory, and a row of one's own in front. -/
theorem MS.newRow {V U M : Av} {w w' : World} (m : MS c B Φ Ψ V U M w) {v : Value} {xs : List Value} (hown : w'.ownsRow 0 e sz v n xs) (hb : ∀ b, v.ownBlock = some b → w.heap.size ≤ b) (hg : w.grownBy w' none) :
    ∃ V' U', MS c (.row v n xs e sz :: B) Φ Ψ V' U' M w' := by
  have hs : ∀ k, k < w.heap.size → w'.heap[k]? = w.heap[k]? := fun k hk => hg.block k hk (by simp)
  have kv : Kept V (fun b => v.ownBlock = some b ∨ V b) w w' := ⟨hg.size, fun b hl _ => hs b hl, fun b hl h => h.resolve_left fun h => by have := hb b h; omega⟩
  have ku : Kept U (fun b => v.ownBlock = some b ∨ U b) w w' := ⟨hg.size, fun b hl _ => hs b hl, fun b hl h => h.resolve_left fun h => by have := hb b h; omega⟩
  have hbl : ∀ b, blks (.row v n xs e sz :: B) b → v.ownBlock = some b ∨ blks B b := fun b ⟨q, hq, h⟩ => by
    cases hq with
    | head => exact .inl h
    | tail _ hq => exact .inr ⟨q, hq, h⟩
  have hlt : ∀ b, v.ownBlock = some b → b < w'.heap.size := fun b h => (World.ownsRow.lt hown b h).2
  refine ⟨_, fun b => v.ownBlock = some b ∨ U b, ⟨fun b h => .inr (m.vx b h), fun b h => .inr (m.vm b h), fun b h => (hbl b h).imp id (m.vb b), fun b h => ?_, fun b h => (hbl b h).imp id (m.ub b), fun b h => ?_,
    ⟨fun q hq => ?_, .cons (fun q hq b h1 h2 => ?_) m.sep.apart⟩, fun b h => ?_, fun φ hφ => φ.st kv (m.phi φ hφ), fun ψ hψ => ψ.st ku (m.psi ψ hψ), c.G.st kv m.g, Nat.le_trans m.sz hg.size, fun b h1 h2 h3 => ?_, m.xlt, m.mo, m.io.trans ⟨hg.os, hg.output, hg.tape⟩⟩⟩
  · rcases h with h | h
    · exact hlt b h
    · exact Nat.lt_of_lt_of_le (m.vlt b h) hg.size
  · rcases h with h | h
    · exact hlt b h
    · exact Nat.lt_of_lt_of_le (m.ult b h) hg.size
  · cases hq with
    | head => exact hown
    | tail _ hq => exact Own.keep (m.sep.holds q hq) fun b h => hs b (Own.lt (m.sep.holds q hq) h)
  · have h3 := Own.lt (m.sep.holds q hq) h2
    have h4 := hb b h1
    omega
  · rcases hbl b h with h' | h'
    · have h4 := hb b h'
      have h5 := m.sz
      exact ⟨.inr (by omega), fun h => by have := m.xlt _ h; omega, fun h => by have := m.vlt _ (m.vm _ h); omega⟩
    · exact m.own b h'
  · have h := m.sz
    exact (hs b (by omega)).trans (m.frame b h1 h2 h3)

/-- 'append' to a row of one's own that stands in front. -/
theorem MS.grow {V U M : Av} {w w' : World} {v' : Value} {n' : Nat} {xs xs' : List Value} (m : MS c (.row v n xs e sz :: B) Φ Ψ V U M w) (hown : w'.ownsRow 0 e sz v' n' xs') (hg : w.grownBy w' v.ownBlock)
    (hb : ∀ b, v'.ownBlock = some b → v.ownBlock = some b ∨ w.heap.size ≤ b) : ∃ V' U', MS c (.row v' n' xs' e sz :: B) Φ Ψ V' U' M w' := by
  have hV : ∀ b, v.ownBlock = some b → V b := fun b h => m.vb b ⟨_, .head _, h⟩
  have hU : ∀ b, v.ownBlock = some b → U b := fun b h => m.ub b ⟨_, .head _, h⟩
  have hs : ∀ k, k < w.heap.size → v.ownBlock ≠ some k → w'.heap[k]? = w.heap[k]? := fun k hk hn => hg.block k hk (fun h => hn h.symm)
  have kv : Kept V (fun b => v'.ownBlock = some b ∨ V b) w w' := ⟨hg.size, fun b hl hn => hs b hl fun h => hn (hV b h), fun b hl h => h.elim (fun h => (hb b h).elim (hV b) fun h => by omega) id⟩
  have ku : Kept U (fun b => v'.ownBlock = some b ∨ U b) w w' := ⟨hg.size, fun b hl hn => hs b hl fun h => hn (hU b h), fun b hl h => h.elim (fun h => (hb b h).elim (hU b) fun h => by omega) id⟩
  have hbl : ∀ b, blks (.row v' n' xs' e sz :: B) b → v'.ownBlock = some b ∨ blks B b := fun b ⟨q, hq, h⟩ => by
    cases hq with
    | head => exact .inl h
    | tail _ hq => exact .inr ⟨q, hq, h⟩
  have hB : ∀ b, blks B b → blks (.row v n xs e sz :: B) b := fun b ⟨q, hq, h⟩ => ⟨q, .tail _ hq, h⟩
  have hlt : ∀ b, v'.ownBlock = some b → b < w'.heap.size := fun b h => (World.ownsRow.lt hown b h).2
  have hap := List.pairwise_cons.1 m.sep.apart
  refine ⟨_, fun b => v'.ownBlock = some b ∨ U b, ⟨fun b h => .inr (m.vx b h), fun b h => .inr (m.vm b h), fun b h => (hbl b h).imp id fun h => m.vb b (hB b h), fun b h => ?_, fun b h => (hbl b h).imp id fun h => m.ub b (hB b h), fun b h => ?_,
    ⟨fun q hq => ?_, .cons (fun q hq b h1 h2 => ?_) hap.2⟩, fun b h => ?_, fun φ hφ => φ.st kv (m.phi φ hφ), fun ψ hψ => ψ.st ku (m.psi ψ hψ), c.G.st kv m.g, Nat.le_trans m.sz hg.size, fun b h1 h2 h3 => ?_, m.xlt, m.mo, m.io.trans ⟨hg.os, hg.output, hg.tape⟩⟩⟩
  · rcases h with h | h
    · exact hlt b h
    · exact Nat.lt_of_lt_of_le (m.vlt b h) hg.size
  · rcases h with h | h
    · exact hlt b h
    · exact Nat.lt_of_lt_of_le (m.ult b h) hg.size
  · cases hq with
    | head => exact hown
    | tail _ hq => exact Own.keep (m.sep.holds q (.tail _ hq)) fun b h => hs b (Own.lt (m.sep.holds q (.tail _ hq)) h) fun h' => hap.1 q hq b h' h
  · rcases hb b h1 with h3 | h3
    · exact hap.1 q hq b h3 h2
    · have h4 := Own.lt (m.sep.holds q (.tail _ hq)) h2
      omega
  · rcases hbl b h with h' | h'
    · rcases hb b h' with h3 | h3
      · exact m.own b ⟨_, .head _, h3⟩
      · have h5 := m.sz
        exact ⟨.inr (by omega), fun h => by have := m.xlt _ h; omega, fun h => by have := m.vlt _ (m.vm _ h); omega⟩
    · exact m.own b (hB b h')
  · have h := m.sz
    refine (hs b (by omega) fun h => ?_).trans (m.frame b h1 h2 h3)
    rcases (m.own b ⟨_, .head _, h⟩).1 with h' | h'
    · exact h2 h'
    · omega

/-- '[]T{a, b, ..}'. -/
theorem r_lit {len : Nat} {xs : List Operand} {vs : List Value} (ht : tSl c.P t = some (e, sz, by')) (hz : tZ c.P e = some z0) (hx : evs ρ xs = some vs) (hlen : vs.length = len) (hv : ∀ v ∈ vs, v.cells.size = sz) (hsm : len * sz ≤ 2 ^ 24) (hl24 : len ≤ 2 ^ 24)
    {parts : List (Nat × Operand)} (hp : parts = (xs.zipIdx 0).map fun p => (p.2, p.1)) {cells : List Value} (hcells : (vs.flatMap fun v => v.cells.toList) = cells) (hb : Nat.blt d c.nt = true)
    (k : ∀ b, SL c ((d, .slice (some ⟨b, 0, none⟩) len len) :: ρ) (.row (.slice (some ⟨b, 0, none⟩) len len) len cells e sz :: B) Φ Ψ ops rest Q) :
    SL c ρ B Φ Ψ ops (⟨some d, .buildSlice t len parts.toArray, ty, ps, af, none⟩ :: rest) Q :=
  sl_plain rfl fun a w hs K hK => by
    obtain ⟨hu, ii, hii, hsz, _⟩ := tSl_inv ht
    have hz' : ii.zero = some z0 := by unfold tZ at hz; simpa [hii] using hz
    have hmap : (parts.map fun p => (p.1, a.eval p.2)) = (vs.zipIdx 0).map fun p => (p.2, p.1) := by
      rw [hp, ← hs.evs hx]
      simp [List.zipIdx_map, Function.comp_def]
    obtain ⟨r, hr, hrl⟩ := fill_all (place := fun i => some (i * sz, sz)) (sz := sz) (fun _ => rfl) vs 0 [] ((Array.range (len * sz)).map ((if len * sz = 0 then #[] else z0.cells)[· % (if len * sz = 0 then #[] else z0.cells).size]!)) hv (by simp) (by simp [hlen]) (by simp)
    have hown : (w.alloc (.cells r e)).ownsRow 0 e sz (.slice (some ⟨w.heap.size, 0, none⟩) len len) len cells := by
      have hrs : r.size = len * sz := by
        have : r.toList.length = len * sz := by
          rw [hrl, List.nil_append, ← hlen]
          clear hr hrl hcells hmap hx hlen
          induction vs with
          | nil => simp
          | cons v vs ih => simp only [List.flatMap_cons, List.length_append, Array.length_toList, hv v (.head _), ih (fun u hu => hv u (.tail _ hu)), List.length_cons, Nat.add_mul, Nat.one_mul, Nat.add_comm]
        simpa using this
      have hlm : len ≤ maxLen := by unfold maxLen; omega
      have := World.ownsRow_lit (base := 0) (e := e) (size := sz) w r len (Nat.zero_le _) hlm hrs
      rw [hrl, List.nil_append, hcells] at this
      exact this
    refine op_value (v := .slice (some ⟨w.heap.size, 0, none⟩) len len) (w' := w.alloc (.cells r e)) (fun _ => by simp) ?_ (hK _ _ (k w.heap.size _ _ ?_))
    · have hsm' : ¬ len * sz > 2 ^ 24 := by omega
      by_cases h0 : len * sz = 0
      · simp only [h0, if_true] at hr
        simp at hr
        simp [execOp, Instr.buildSlice, run_underlying hu, sizeOf, typeInfo, hii, hsz, h0, hmap, hr, newRow]
      · simp only [h0, if_false] at hr
        simp [execOp, Instr.buildSlice, run_underlying hu, sizeOf, typeInfo, zeroValue, hii, hsz, hz', h0, hsm', hmap, hr, newRow]
    · obtain ⟨V, U, M, m⟩ := hs.mem
      obtain ⟨V', U', m'⟩ := m.newRow hown (fun b h => by simp [Value.ownBlock] at h; omega) (World.grownBy_alloc w _ none)
      exact (hs.put hb _).mem' rfl m'

theorem ownBlock_of {w : World} {xs : List Value} (h : w.ownsRow 0 e sz v n xs) : v.cells = #[v] ∧ v.oneCell' = true := by
  rcases h.2 with ⟨rfl, _⟩ | ⟨g, cap, cur, rfl, _⟩ <;> exact ⟨rfl, rfl⟩

/-- Where the new slice of an append lies. -/
theorem run_append_own' {P : Program} {w : World} {xs : List Value} {i : TypeInfo} {z : Value} (ht : P.underlying t = some (.slice e)) (hi : P.info? e = some i) (hz : i.zero = some z)
    (hsize : i.size = sz) (hby : i.bytes = by') (hzs : z.cells.size = sz) (hsz : 0 < sz) (hown : w.ownsRow 0 e sz v n xs)
    (a : Addr) (m c' : Nat) (news : List Value) (hl : news.length = m * sz) (hnews : ∀ j u, news[j]? = some u → w.cell? (a.add j) = some u) (h1 : ∀ u ∈ news, u.oneCell' = true)
    (h63 : n + m ≤ maxLen) (hbytes : (n + m) * by' ≤ 140737488355328) {ty : TypeId} :
    ∃ v' w', (Builtin.append_ #[t, t] ty #[v, .slice (some a) m c']).run P w = .ok v' w' ∧ w'.ownsRow 0 e sz v' (n + m) (xs ++ news) ∧ w.grownBy w' v.ownBlock ∧ (∀ b, v'.ownBlock = some b → v.ownBlock = some b ∨ w.heap.size ≤ b) := by
  obtain ⟨v', w', h2, h3, h4, _⟩ := run_append_own (P := P) w 0 t ty e i z sz by' ht hi hz hsize hby hzs hsz v n xs hown a m c' news hl hnews h1 h63 hbytes (Nat.zero_le _)
  refine ⟨v', w', h2, h3, h4, fun b hb => ?_⟩
  rcases hown.2 with ⟨rfl, rfl⟩ | ⟨g, cap, cur, rfl, hbg, hg, hnc, hcm, hcs, htake⟩
  · by_cases hm : m = 0
    · subst hm
      have hn : news = [] := List.eq_nil_of_length_eq_zero (by simpa using hl)
      subst hn
      have : (Builtin.append_ #[t, t] ty #[.slice none 0 0, .slice (some a) 0 c']).run P w = .ok (.slice none 0 0) w := by
        simp [Builtin.append_, run_underlying ht, sizeOf, typeInfo, hi, Builtin.lenOf, Builtin.firstCells, loadCells, loadCellsFrom]
      rw [this] at h2
      cases h2
      simp [Value.ownBlock] at hb
    · unfold maxLen at h63
      have hr := run_append_nil (P := P) w t ty e i z ht hi hz a m c' news (by rw [hsize]; exact hl) hnews (by omega) (by omega) (by rw [hby]; have := hbytes; simp only [Nat.zero_add] at this; omega)
      rw [hr] at h2
      cases h2
      simp [Value.ownBlock] at hb
      exact .inr (by omega)
  · by_cases hroom : n + m ≤ cap
    · have hr := run_append_room (P := P) w t ty e i ht hi g n cap cur hg a m c' news (by rw [hsize]; exact hl) hnews h1 hroom (by rw [hsize, hl, hcs, ← Nat.add_mul]; exact Nat.mul_le_mul_right _ hroom)
      rw [hr] at h2
      cases h2
      exact .inl hb
    · have holds : ∀ j u, xs[j]? = some u → w.cell? ((⟨g, 0, none⟩ : Addr).add j) = some u := hown.cells (g := g) rfl
      have hr := run_append_grow (P := P) w t ty e i z ht hi hz ⟨g, 0, none⟩ n cap xs (by rw [hsize]; exact hown.1) holds a m c' news (by rw [hsize]; exact hl) hnews (by omega) (by unfold maxLen at h63; omega) (by rw [hby]; exact growslice_fits (by omega) hbytes)
      rw [hr] at h2
      cases h2
      simp [Value.ownBlock] at hb
      exact .inr (by omega)

/-- 'append(s, x...)': s a row of one's own that stands in front; x a slice that is told. -/
theorem r_append {xs news : List Value} {mm c' at1 : Nat} (ht : tSl c.P at1 = some (e, sz, by')) (hz : tZ c.P e = some z0) (hz1 : z0.cells.size = sz) (hsz0 : Nat.beq sz 0 = false) (hx : ev ρ x = some v) (hy : ev ρ y = some (.slice ba mm c')) (hm : Res.mem ba news ∈ Φ) (hl : news.length = mm * sz)
    (h1 : news.all Value.oneCell' = true) (h63 : n + mm ≤ 9223372036854775807) (hbytes : (n + mm) * by' ≤ 140737488355328) (hb : Nat.blt d c.nt = true)
    (k : ∀ v', v'.cells = #[v'] → v'.oneCell' = true → SL c ((d, v') :: ρ) (.row v' (n + mm) (xs ++ news) e sz :: B) Φ Ψ ops rest Q) :
    SL c ρ (.row v n xs e sz :: B) Φ Ψ ops (⟨some d, .call ⟨.builtin .append, #[x, y], #[at1, at1]⟩, ty, ps, af, none⟩ :: rest) Q :=
  sl_plain rfl fun a w hs K hK => by
    obtain ⟨hu, ii, hii, hsz, hby⟩ := tSl_inv ht
    have hz' : ii.zero = some z0 := by unfold tZ at hz; simpa [hii] using hz
    have hszp : 0 < sz := Nat.pos_of_ne_zero (ne_of_beq hsz0)
    obtain ⟨V, U, M, m⟩ := hs.mem
    have hown : w.ownsRow 0 e sz v n xs := m.sep.holds _ (.head _)
    have fin : ∀ v' w', (Builtin.append_ #[at1, at1] ty #[v, .slice ba mm c']).run c.P w = .ok v' w' → w'.ownsRow 0 e sz v' (n + mm) (xs ++ news) → w.grownBy w' v.ownBlock → (∀ b, v'.ownBlock = some b → v.ownBlock = some b ∨ w.heap.size ≤ b) →
        Oper.wpIn (Fr c.r) 0 c.P (⟨some d, .call ⟨.builtin .append, #[x, y], #[at1, at1]⟩, ty, ps, af, none⟩) a w K Q := fun v' w' h2 h3 h4 h5 => by
      obtain ⟨h6, h7⟩ := ownBlock_of h3
      refine op_value (v := v') (w' := w') (fun _ => by simp) ?_ (hK _ _ (k v' h6 h7 _ _ ?_))
      · simp [execOp, resolve, invoke, builtin, hs.ev hx, hs.ev hy, h2]
      · obtain ⟨V', U', m'⟩ := m.grow h3 h4 h5
        exact (hs.put hb v').mem' rfl m'
    cases ba with
    | some ad =>
      obtain ⟨v', w', h2, h3, h4, h5⟩ := run_append_own' (P := c.P) (w := w) hu hii hz' hsz hby hz1 hszp hown ad mm c' news hl (fun j u hj => by
        obtain ⟨ad', he, _, hc⟩ := m.phi _ hm j u hj
        cases he; exact hc) (fun u hu => List.all_eq_true.1 h1 u hu) (by unfold maxLen; omega) hbytes (ty := ty)
      exact fin v' w' h2 h3 h4 h5
    | none =>
      have hn : news = [] := by
        cases news with
        | nil => rfl
        | cons u us => obtain ⟨ad', he, _⟩ := m.phi _ hm 0 u rfl; cases he
      subst hn
      have hm0 : mm = 0 := by
        simp only [List.length_nil] at hl
        rcases Nat.mul_eq_zero.1 hl.symm with h | h
        · exact h
        · omega
      subst hm0
      refine fin v w ?_ (by simpa using hown) ⟨rfl, rfl, rfl, Nat.le_refl _, fun _ _ _ => rfl⟩ fun b h => .inl h
      rcases hown.2 with ⟨rfl, rfl⟩ | ⟨g, cap, cur, rfl, _, _, hnc, _⟩
      · simp [Builtin.append_, run_underlying hu, sizeOf, typeInfo, hii, Builtin.lenOf, Builtin.firstCells]
      · simp [Builtin.append_, run_underlying hu, sizeOf, typeInfo, hii, Builtin.lenOf, Builtin.firstCells, hnc, storeCells]

/-- 'copy(dst, src)' into an array variable of one's own. -/
theorem r_copy {b o dl dc mm c' nn at1 at2 : Nat} {cur cur' news : List Value} {bt : TypeId} (ht : tSl c.P at1 = some (e, 1, by')) (hx : ev ρ x = some (.slice (some ⟨b, o, none⟩) dl dc)) (hy : ev ρ y = some (.slice ba mm c')) (hm : Res.mem ba news ∈ Φ)
    (hn : Nat.min mm dl = nn) (hl : nn ≤ news.length) (hfit : o + nn ≤ cur.length) (h1 : news.all Value.oneCell' = true) (hcur : splice cur o (news.take nn) = cur') (hB : Upd B (.box b cur bt) (.box b cur' bt) B') (hb : Nat.blt d c.nt = true)
    (k : SL c ((d, .int .i64 nn) :: ρ) B' Φ Ψ ops rest Q) :
    SL c ρ B Φ Ψ ops (⟨some d, .call ⟨.builtin .copy, #[x, y], #[at1, at2]⟩, ty, ps, af, none⟩ :: rest) Q :=
  sl_plain rfl fun a w hs K hK => by
    obtain ⟨hu, ii, hii, hsz, hby⟩ := tSl_inv ht
    obtain ⟨V, U, M, m⟩ := hs.mem
    have hold := m.sep.holds _ hB.mem
    have hsame : w.setRow b cur.toArray = w := setRow_self w b cur.toArray bt _ hold
    have hlen : (news.take nn).length = nn := by simp; omega
    refine op_value (v := .int .i64 nn) (w' := w.setRow b cur'.toArray) (fun _ => by simp) ?_ (hK _ _ (k _ _ ?_))
    · cases ba with
      | some ad =>
        have hr := run_copy_row (P := c.P) w at1 at2 ty e b o dl dc ad mm c' cur.toArray bt (news.take nn) hu (by simp [hii, hsz]) hold (by rw [hlen, hn]) (fun j v hj => by
          rw [List.getElem?_take] at hj
          split at hj
          · obtain ⟨ad', he, _, hc⟩ := m.phi _ hm j v hj
            cases he; exact hc
          · cases hj) (by simp; omega) (fun v hv => List.all_eq_true.1 h1 v (List.mem_of_mem_take hv))
        have e1 : (cur.toArray.toList.take o ++ news.take nn ++ cur.toArray.toList.drop (o + (news.take nn).length)) = cur' := by rw [← hcur]; simp [splice]
        rw [e1, hlen] at hr
        simp [execOp, resolve, invoke, builtin, hs.ev hx, hs.ev hy, hr, goInt]
      | none =>
        have hn0 : news = [] := by
          cases news with
          | nil => rfl
          | cons u us => obtain ⟨ad', he, _⟩ := m.phi _ hm 0 u rfl; cases he
        subst hn0
        have h0 : nn = 0 := by simpa using hl
        subst h0
        have : cur' = cur := by rw [← hcur]; simp [splice]
        subst this
        have hl0 : ∀ q, (storeCells ⟨b, o, none⟩ [] q).run c.P w = .ok () w := fun q => rfl
        simp [execOp, resolve, invoke, builtin, hs.ev hx, hs.ev hy, Builtin.copy_, run_underlying hu, Builtin.lenOf, Builtin.firstCells, sizeOf, typeInfo, hii, hl0, goInt, hsame]
        exact (by rw [show Nat.min mm dl = min mm dl from rfl] at hn; omega)
    · have hh : (Own.box b cur' bt).holds (w.setRow b cur'.toArray) := box_setRow hold
      exact (hs.put hb _).mem' (hB.marks rfl) (m.turn hB rfl (w' := w.setRow b cur'.toArray) hh (by simp) fun k hk => setRow_other w b k _ (fun e => hk (by rw [e]; rfl)))

/-- A closure. -/
theorem r_clos {f : Fn} {caps : List Operand} {vs : List Value} (hx : evs ρ caps = some vs := by exact rfl) (hb : Nat.blt d c.nt = true := by exact rfl) (k : SL c ((d, .func f #[] vs.toArray) :: ρ) B Φ Ψ ops rest Q) :
    SL c ρ B Φ Ψ ops (⟨some d, .makeFunc f #[] caps.toArray, ty, ps, af, none⟩ :: rest) Q :=
  r_val rfl (fun _ => by simp) rfl hb (fun a w hs => by
    have : caps.toArray.map a.eval = vs.toArray := by rw [List.map_toArray, hs.evs hx]
    simp [execOp, Instr.makeFunc, this]) k

/-- A value of a struct or an array, made of parts. -/
theorem r_build {_zc : Array Value} {parts : Array (Nat × Operand)} {ps' : List (Nat × Value)} {cells : Array Value} (hps : ∀ a : Operand → Value, (∀ x v, ev ρ x = some v → a x = v) → (parts.map fun p => (p.1, a p.2)).toList = ps')
    (hrun : ∀ w, (Instr.build t ps'.toArray).run c.P w = .ok (.agg cells) w) (hb : Nat.blt d c.nt = true) (k : SL c ((d, .agg cells) :: ρ) B Φ Ψ ops rest Q) :
    SL c ρ B Φ Ψ ops (⟨some d, .build t parts, ty, ps, af, none⟩ :: rest) Q :=
  r_val rfl (fun _ => by simp) rfl hb (fun a w hs => by
    have h := hps a.eval (fun x v h => hs.ev h)
    have h' : (parts.map fun p => (p.1, a.eval p.2)) = ps'.toArray := by rw [← h]
    have h2 := hrun w
    rw [← h'] at h2
    simp [execOp, h2]) k
end
end Go.Proofs.YtjahiohlekdhoaaDoor

namespace Go.Proofs.YtjahiohlekdhoaaDoor
open Go

/-- A loop's state behind a list's elements, where it stops once it goes on no more. -/
def runs {σ α : Type} (Y : σ → α → σ) (go : σ → Bool) : σ → List α → σ
  | s, [] => s
  | s, x :: l => bif go (Y s x) then runs Y go (Y s x) l else Y s x
theorem runs_cons {σ α : Type} {Y : σ → α → σ} {go : σ → Bool} {s : σ} {x : α} {l : List α} (h : go (Y s x) = true) : runs Y go s (x :: l) = runs Y go (Y s x) l := by simp [runs, h]
theorem runs_stop {σ α : Type} {Y : σ → α → σ} {go : σ → Bool} {s : σ} {x : α} {l : List α} (h : go (Y s x) = false) : runs Y go s (x :: l) = Y s x := by simp [runs, h]
theorem runs_all {σ α : Type} {Y : σ → α → σ} {go : σ → Bool} (h : ∀ s, go s = true) : ∀ (l : List α) (s : σ), runs Y go s l = l.foldl Y s
  | [], _ => rfl
  | x :: l, s => by rw [runs_cons (h _), List.foldl_cons, runs_all h l]
/-- What may be taken as given where a list's elements come, one by one. -/
def Adm {σ α : Type} (Y : σ → α → σ) (go : σ → Bool) (A : σ → α → Prop) : σ → List α → Prop
  | _, [] => True
  | s, x :: l => A s x ∧ (go (Y s x) = true → Adm Y go A (Y s x) l)
theorem adm_true {σ α : Type} {Y : σ → α → σ} {go : σ → Bool} : ∀ (l : List α) (s : σ), Adm Y go (fun _ _ => True) s l
  | [], _ => trivial
  | _ :: l, _ => ⟨trivial, fun _ => adm_true l _⟩
/-- The relation of an iterator over a list. -/
def over {α : Type} (L : List α) : (σ : Type) → (σ → α → σ) → (σ → Bool) → σ → σ → List Own → List Res → Prop := fun _ Y go s0 s' B' Φ' => s' = runs Y go s0 L ∧ B' = [] ∧ Φ' = []

def yv (l : Nat) : Value := .func (.yield l) #[] #[]

/-- WHAT A LOOP's BODY DOES, as its iterator sees it: handed an element where the loop goes on it takes the loop's state s to Y s x and says whether it goes on; of what was there it changes blocks of M alone. -/
def Yields (P : Program) (l : Nat) {σ α : Type} (J : σ → JR) (E : α → List Value → Res) (Y : σ → α → σ) (go : σ → Bool) (A : σ → α → Prop) (X : Av) : Prop :=
  ∀ (s : σ) (x : α) (vs : List Value) (w : World) (V U M : Av), go s = true → A s x → (∀ b, X b → V b) → (J s).p M U w → (∀ b, M b → V b) → (∀ b, U b → V b) → (∀ b, V b → b < w.heap.size) → (E x vs).p V w →
    YieldAt (Fr none) 0 P l vs.toArray w fun e w' => e = .returned (.bool (go (Y s x))) ∧ ∃ M', (J (Y s x)).p M' U w' ∧ (∀ b, M' b → (M b ∨ w.heap.size ≤ b) ∧ b < w'.heap.size) ∧ (w.heap.size ≤ w'.heap.size ∧ Io w w') ∧ ∀ b, b < w.heap.size → ¬ M b → w'.heap[b]? = w.heap[b]?

/-- WHAT AN ITERATOR DOES: it goes over the elements of L. -/
structure ICtr (P : Program) (G : Res) (g : FuncId) (caps : List Value) (B : List Own) (Φ : List Res) {α : Type} (E : α → List Value → Res) (L : List α) : Prop where
  nomark : marks B = []
  enters : ∀ args w, (callFunc g args).run P w = .ok (.enter g args) w
  calls : ∀ (σ : Type) (J : σ → JR) (Y : σ → α → σ) (go : σ → Bool) (A : σ → α → Prop) (l : Nat) (s0 : σ) (w : World) (X M : Av), (∀ x, X x → x < w.heap.size) → Sep B w → (∀ b, blks B b → ¬ X b) → (∀ b, M b → X b) → (∀ φ ∈ Φ, φ.p (Or' X (blks B)) w) → G.p (Or' X (blks B)) w →
    (J s0).p M (blks B) w → go s0 = true → Adm Y go A s0 L → Yields P l J E Y go A X →
    Calls P g (yv l :: caps).toArray w fun e w' => ∃ v s' M' B' Φ', e = .returned v ∧ over L σ Y go s0 s' B' Φ' ∧ marks B' = [] ∧ Sep B' w' ∧ (∀ b, blks B' b → ¬ X b ∧ ¬ M' b ∧ (blks B b ∨ w.heap.size ≤ b)) ∧
      (∀ φ ∈ Φ', φ.p (Or' (Or' X M') (blks B')) w') ∧ (J s').p M' (blks B') w' ∧ (∀ b, M' b → (M b ∨ w.heap.size ≤ b) ∧ b < w'.heap.size) ∧ (w.heap.size ≤ w'.heap.size ∧ Io w w') ∧ ∀ b, b < w.heap.size → ¬ blks B b → ¬ M b → w'.heap[b]? = w.heap[b]?

section
variable {c : Ctx} {ρ : List (Nat × Value)} {B Bp Br B' : List Own} {Φ Φp : List Res} {Ψ : List JR} {ops : Array Oper} {rest : List Oper} {Q : Post} {d ty t : Nat} {ps : String} {af : Array Edge} {x y z : Operand} {v u : Value} {w : World}

/-- A call of yield. -/
theorem r_yield {σ α : Type} {l : Nat} {J : σ → JR} {E : α → List Value → Res} {Y : σ → α → σ} {go : σ → Bool} {s : σ} {el : α} {vs : List Value} {xs : List Operand} {fo : Operand} {at' : Array TypeId} {A : σ → α → Prop} (hY : Yields c.P l J E Y go A c.X) (hgo : go s = true) (hA : A s el) (hf : ev ρ fo = some (yv l)) (hx : evs ρ xs = some vs)
    (hE : ∀ V w, (∀ φ ∈ Φ, φ.p V w) → (E el vs).p V w) (hb : Nat.blt d c.nt = true) (k : SL c ((d, .bool (go (Y s el))) :: ρ) B Φ [J (Y s el)] ops rest Q) :
    SL c ρ B Φ [J s] ops (⟨some d, .call ⟨.value fo, xs.toArray, at'⟩, ty, ps, af, none⟩ :: rest) Q :=
  sl_plain rfl fun a w hs K hK => by
    obtain ⟨V, U, M, m⟩ := hs.mem
    have hJ := m.psi _ (.head _)
    refine ⟨fun _ _ => trivial, ?_⟩
    have hsem : ∀ o : Oper, (∀ c, o.op ≠ .defer c) → (o.semAt (Fr c.r).round a.eval) = execOp a.eval o := fun o ho => Oper.semAt_eq _ _ _ ho
    rw [hsem _ (fun _ => by simp)]
    have hmap : xs.toArray.map a.eval = vs.toArray := by rw [List.map_toArray, hs.evs hx]
    obtain ⟨fn, tmps, assign, body, hy, hR⟩ := hY s el vs w V (fun b => U b ∧ V b) M hgo hA m.vx ((J s).st ⟨Nat.le_refl _, fun _ _ _ => rfl, fun b _ h => h.1⟩ hJ) m.vm (fun b h => h.2) m.vlt (hE V w m.phi)
    have hrun : (execOp a.eval ⟨some d, .call ⟨.value fo, xs.toArray, at'⟩, ty, ps, af, none⟩).run c.P w = .ok (.round l fn tmps assign body) w := by
      have hy' : (Instr.yield l vs.toArray).run c.P w = .ok (.round l fn tmps assign body) w := hy
      simp [execOp, resolve, hs.ev hf, yv, Deferred.ofValue, invoke, hmap, hy']
    rw [hrun]
    refine ⟨fun h => (by cases h), ?_⟩
    have hR' : RoundIn (Fr c.r) 0 c.P l fn tmps assign body w _ := hR
    refine hR'.mono ?_
    rintro e w' ⟨rfl, M', hJ', hM', ⟨hsz, hio⟩, hk⟩
    refine hK _ _ (k _ _ ?_)
    have hkM : ∀ b, b < w.heap.size → ¬ V b → w'.heap[b]? = w.heap[b]? := fun b hl hn => hk b hl fun h => hn (m.vm b h)
    have kv : Kept V (Or' V M') w w' := ⟨hsz, hkM, fun b hl h => h.elim id fun h => (hM' b h).1.elim (m.vm b) fun h => by omega⟩
    exact (hs.put hb _).mem' rfl (V := Or' V M') (U := fun b => U b ∧ V b) (M := M') ⟨fun b h => .inl (m.vx b h), fun b h => .inr h, fun b h => .inl (m.vb b h), fun b h => h.elim (fun h => Nat.lt_of_lt_of_le (m.vlt b h) hsz) fun h => (hM' b h).2, fun b h => ⟨m.ub b h, m.vb b h⟩, fun b h => Nat.lt_of_lt_of_le (m.ult b h.1) hsz,
      m.sep.keep fun b hb => hk b (m.sep.lt hb) (m.own b hb).2.2, fun b h => ⟨(m.own b h).1, (m.own b h).2.1, fun h' => (hM' b h').1.elim (m.own b h).2.2 fun h2 => by have := m.sep.lt h; omega⟩, fun φ hφ => φ.st kv (m.phi φ hφ),
      fun ψ hψ => (by cases hψ with
        | head => exact hJ'
        | tail _ h => cases h), c.G.st kv m.g, Nat.le_trans m.sz hsz, fun b h1 h2 h3 => (hk b (by have := m.sz; omega) fun h => (m.mo b h).elim h3 fun h => by omega).trans (m.frame b h1 h2 h3), m.xlt, fun b h => (hM' b h).1.elim (m.mo b) fun h => .inr (by have := m.sz; omega), m.io.trans hio⟩
end

/-! ### An iterator's entry and its end -/
def IQ (c : Ctx) (fn : Func) (B0 : List Own) {σ : Type} (J : σ → JR) (R : σ → List Own → List Res → Prop) : Post :=
  bodyPostM (Fr none) 0 c.P fn fun e w' => ∃ v s' M' B' Φ', e = .returned v ∧ R s' B' Φ' ∧ marks B' = [] ∧ Sep B' w' ∧ (∀ b, blks B' b → ¬ c.X b ∧ ¬ M' b ∧ (blks B0 b ∨ c.w0.heap.size ≤ b)) ∧
      (∀ φ ∈ Φ', φ.p (Or' (Or' c.X M') (blks B')) w') ∧ (J s').p M' (blks B') w' ∧ (∀ b, M' b → (c.Y b ∨ c.w0.heap.size ≤ b) ∧ b < w'.heap.size) ∧ (c.w0.heap.size ≤ w'.heap.size ∧ Io c.w0 w') ∧ ∀ b, b < c.w0.heap.size → ¬ blks B0 b → ¬ c.Y b → w'.heap[b]? = c.w0.heap[b]?

theorem ICtr.intro {P : Program} {G : Res} {f : FuncId} {fn : Func} {code : Code} {caps : List Value} {B : List Own} {Φ : List Res} {α : Type} {E : α → List Value → Res} {L : List α} {nt : Nat} {ρ : Nat → List (Nat × Value)}
    (hf : P.funcs[f]? = some fn) (hn : (fn.name == "runtime.NumGoroutine") = false) (hbody : fn.body = some code) (hnt : fn.ntmps = nt) (hm : marks B = []) (hle : Nat.ble (caps.length + 1) nt = true) (hρ : ∀ l, regs 0 (yv l :: caps) = ρ l)
    (h : ∀ (σ : Type) (J : σ → JR) (Y : σ → α → σ) (go : σ → Bool) (A : σ → α → Prop) (l : Nat) (s0 : σ) (w : World) (X M : Av), go s0 = true → Adm Y go A s0 L → Yields P l J E Y go A X → SW ⟨P, none, nt, w, X, blks B, M, G⟩ (ρ l) B Φ [J s0] code (IQ ⟨P, none, nt, w, X, blks B, M, G⟩ fn B J (over L σ Y go s0))) : ICtr P G f caps B Φ E L := by
  refine ⟨hm, enters_of hf hn hbody, fun σ J Y go A l s0 w X M hX hsep hdis hMX hphi hG hJ hgo hA hY => ?_⟩
  refine calls_fr (n := 0) (callsIn_of_wp_marks hf hbody trivial ?_ rfl)
  have hle' : caps.length + 1 ≤ nt := by simpa using hle
  refine h σ J Y go A l s0 w X M hgo hA hY _ w ⟨by simp [hnt]; omega, fun t v ht => ?_, hm.symm, Or' X (blks B), blks B, M, ?_⟩
  · rw [← hρ] at ht
    obtain ⟨_, h2⟩ := lk_regs (yv l :: caps) 0 t v ht
    have hlt : t < (yv l :: caps).length := by
      rcases Nat.lt_or_ge t (yv l :: caps).length with h | h
      · exact h
      · rw [Nat.sub_zero, List.getElem?_eq_none h] at h2; cases h2
    rw [Nat.sub_zero] at h2
    rw [Array.getD_eq_getD_getElem?, Array.getElem?_append_left (by simpa using hlt)]
    have : (yv l :: caps).toArray[t]? = some v := by simpa using h2
    rw [this]; rfl
  · exact ⟨fun b h => .inl h, fun b h => .inl (hMX b h), fun b h => .inr h, fun b h => h.elim (hX b) hsep.lt, fun b h => h, fun b h => hsep.lt h, hsep, fun b h => ⟨.inl h, hdis b h, fun h' => hdis b h (hMX b h')⟩, hphi, fun ψ h => (by cases h with
      | head => exact hJ
      | tail _ h => cases h), hG, Nat.le_refl _, fun _ _ _ _ => rfl, hX, fun b h => .inl h, Io.refl w⟩

theorem results_none {fn : Func} {P : Program} (h : fn.results = #[]) (tmps : Array Value) (w : World) : (results fn tmps).run P w = .ok (.tuple #[]) w := by
  simp [results, h]

section
variable {c : Ctx} {ρ : List (Nat × Value)} {B B0 B' : List Own} {Φ Φ' : List Res} {fn : Func}

theorem sp_iend {σ : Type} {J : σ → JR} {R : σ → List Own → List Res → Prop} {s' : σ} (hc : c.r = none) (hr : fn.results = #[]) (hK : c.K = blks B0) (hp : R s' B' Φ') (hB : B'.Sublist B) (hm : marks B' = []) (hΦ : ∀ φ ∈ Φ', φ ∈ Φ) (hmB : marks B = []) :
    ∀ a w, St c ρ B Φ [J s'] a w → LeavesInM (Fr none) 0 c.P fn a.tmps (fun e w' => ∃ v s' M' B' Φ', e = .returned v ∧ R s' B' Φ' ∧ marks B' = [] ∧ Sep B' w' ∧ (∀ b, blks B' b → ¬ c.X b ∧ ¬ M' b ∧ (blks B0 b ∨ c.w0.heap.size ≤ b)) ∧
      (∀ φ ∈ Φ', φ.p (Or' (Or' c.X M') (blks B')) w') ∧ (J s').p M' (blks B') w' ∧ (∀ b, M' b → (c.Y b ∨ c.w0.heap.size ≤ b) ∧ b < w'.heap.size) ∧ (c.w0.heap.size ≤ w'.heap.size ∧ Io c.w0 w') ∧ ∀ b, b < c.w0.heap.size → ¬ blks B0 b → ¬ c.Y b → w'.heap[b]? = c.w0.heap[b]?) a.defers .returning w := by
  intro a w hs
  obtain ⟨V, U, M, m⟩ := hs.mem
  rw [hs.dfr, show dfs c B = [] by unfold dfs; rw [hc]; exact hmB]
  have hsub : ∀ o ∈ B', o ∈ B := fun o ho => hB.subset ho
  have hbl : ∀ b, blks B' b → blks B b := fun b ⟨o, ho, e⟩ => ⟨o, hsub o ho, e⟩
  refine ⟨_, results_none hr a.tmps w, _, s', M, B', Φ', rfl, hp, hm, ⟨fun o ho => m.sep.holds o (hsub o ho), m.sep.apart.sublist hB⟩, fun b h => ?_, fun φ hφ => φ.less (m.phi φ (hΦ φ hφ)) fun b h => ?_, (J s').st ⟨Nat.le_refl _, fun _ _ _ => rfl, fun b _ h => m.ub b (hbl b h)⟩ (m.psi _ (.head _)), fun b h => ⟨m.mo b h, m.vlt b (m.vm b h)⟩, ⟨m.sz, m.io⟩, fun b h1 h2 h3 => m.frame b h1 (by rw [hK]; exact h2) h3⟩
  · obtain ⟨h1, h2, h3⟩ := m.own b (hbl b h)
    exact ⟨h2, h3, by rw [← hK]; exact h1⟩
  · rcases h with (h | h) | h
    · exact m.vx b h
    · exact m.vm b h
    · exact m.vb b (hbl b h)
theorem sp_iret {σ : Type} {J : σ → JR} {R : σ → List Own → List Res → Prop} {s' : σ} (hc : c.r = none) (hr : fn.results = #[]) (hK : c.K = blks B0) (hp : R s' B' Φ') (hB : B'.Sublist B) (hm : marks B' = []) (hΦ : ∀ φ ∈ Φ', φ ∈ Φ) (hmB : marks B = []) : SP c ρ B Φ [J s'] .ret (IQ c fn B0 J R) :=
  sp_iend hc hr hK hp hB hm hΦ hmB
theorem sp_inorm {σ : Type} {J : σ → JR} {R : σ → List Own → List Res → Prop} {s' : σ} (hc : c.r = none) (hr : fn.results = #[]) (hK : c.K = blks B0) (hp : R s' B' Φ') (hB : B'.Sublist B) (hm : marks B' = []) (hΦ : ∀ φ ∈ Φ', φ ∈ Φ) (hmB : marks B = []) : SP c ρ B Φ [J s'] .normal (IQ c fn B0 J R) :=
  sp_iend hc hr hK hp hB hm hΦ hmB
end

end Go.Proofs.YtjahiohlekdhoaaDoor
