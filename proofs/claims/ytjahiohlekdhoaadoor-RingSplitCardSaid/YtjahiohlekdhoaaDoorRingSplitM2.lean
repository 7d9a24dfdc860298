/-
  The engine, part 7: 'for x := range seq { .. }' in a function's own body.
  The engine, part 8: a region that draws the order of its operations: operations that only read are taken first; of the others every order is gone through.
  The engine, part 9: whole numbers of Go's kinds as Lean's own; 'min', 'max'; shifts, bits; strings out of bytes; equality of aggregates; ends with several results.
  The engine, part 10: calls that tell a value alone; ends with several results, with results in variables; equality of strings, of aggregates.
  The engine, part 11: slices of bytes as lists; what an iterator over a list comes to.
  The engine, part 12: slices of bytes: made, appended to, cut, compared with nil; calls that tell one.
  The engine, part 13: operations that only read, in regions that draw their order.
-/
import Derived.Test.YtjahiohlekdhoaaDoorRingSplitM1
import Derived.Laws.BitsAllLaws
import Derived.Laws.Bits64
namespace Go.Proofs.YtjahiohlekdhoaaDoor
open Go

def stOf : Option Code → LoopState
  | none => .ready
  | some _ => .done
def recOf (fn : FuncId) (tmps : Array Value) (ps : Array Tmp) (assign body : Code) (mk : Nat) (st : LoopState) (j : Option Code) : Loop := { state := st, pending := j, fn, tmps, params := ps, assign, body, defers := mk }

/-- The loop's two blocks: its record, the block for the rounds' deferred calls. -/
def two (rec : LoopState → Option Code → Loop) (l mk : Nat) (st : LoopState) (j : Option Code) (B : List Own) : List Own := .obj l (.loop (rec st j)) :: .obj mk (.deferred (some [])) :: B

/-- What a loop holds between two rounds. -/
def JL (c : Ctx) (rec : LoopState → Option Code → Loop) (l mk : Nat) {σ ι : Type} (Bs : σ → ι → List Own) (Φs : σ → ι → List Res) (jmp : σ → Option Code) (s : σ) : JR where
  p M U w := ∃ (i : ι) (V : Av), (∀ b, U b → V b) ∧ (∀ b, c.X b → V b) ∧ (∀ b, M b → V b) ∧ (∀ b, M b → ¬ U b ∧ b < w.heap.size ∧ (c.K b ∨ c.w0.heap.size ≤ b) ∧ ¬ c.X b) ∧
    Sep (two rec l mk (stOf (jmp s)) (jmp s) (Bs s i)) w ∧ (∀ b, blks (two rec l mk (stOf (jmp s)) (jmp s) (Bs s i)) b → M b) ∧ (∀ φ ∈ Φs s i, φ.p V w) ∧ c.G.p V w ∧ c.w0.heap.size ≤ w.heap.size
  st := by
    rintro M U U' w w' hk ⟨i, V, h1, h2, h3, h4, h5, h6, h7, h8, h9⟩
    have kv : Kept V (fun b => V b ∨ U' b) w w' := ⟨hk.size, fun b hl hn => hk.same b hl fun h => hn (h1 b h), fun b hl h => h.elim id fun h => h1 b (hk.av b hl h)⟩
    refine ⟨i, fun b => V b ∨ U' b, fun b h => .inr h, fun b h => .inl (h2 b h), fun b h => .inl (h3 b h), fun b h => ?_, h5.keep fun b hb => hk.same b (h5.lt hb) (h4 b (h6 b hb)).1, h6, fun φ hφ => φ.st kv (h7 φ hφ), c.G.st kv h8, Nat.le_trans h9 hk.size⟩
    obtain ⟨a1, a2, a3, a4⟩ := h4 b h
    exact ⟨fun h' => a1 (hk.av b a2 h'), Nat.lt_of_lt_of_le a2 hk.size, a3, a4⟩

/-- The registers with a loop's variables laid in. -/
def pr : List Nat → List Value → List (Nat × Value) → List (Nat × Value)
  | p :: ps, v :: vs, ρ => pr ps vs ((p, v) :: ρ)
  | _, _, ρ => ρ

/-- What is asked where a round's assignments have ended: the round begins. -/
def AQ (c : Ctx) (l : Nat) (body : Code) (R : Post) : Post :=
  Exit.then (fun a₁ w₁ => ∃ w₂, (Instr.beginRound l).run c.P w₁ = .ok () w₂ ∧ body.wpIn (Fr (some l)) 0 c.P R a₁ w₂) (fun _ _ _ => False)

/-- What is asked at a round's end: the loop's state is s'. -/
def RQ (c cl : Ctx) (rec : LoopState → Option Code → Loop) (l mk : Nat) {σ ι : Type} (Bs : σ → ι → List Own) (Φs : σ → ι → List Res) (jmp : σ → Option Code) (s' : σ) (U : Av) : Post :=
  roundPost c.P l fun e w' => e = .returned (.bool (jmp s').isNone) ∧ ∃ M', (JL cl rec l mk Bs Φs jmp s').p M' U w' ∧ (∀ b, M' b → (c.K b ∨ c.w0.heap.size ≤ b) ∧ b < w'.heap.size) ∧ (c.w0.heap.size ≤ w'.heap.size ∧ Io c.w0 w') ∧ ∀ b, b < c.w0.heap.size → ¬ c.K b → w'.heap[b]? = c.w0.heap[b]?

section
variable {c cl : Ctx} {ρ : List (Nat × Value)} {B B' : List Own} {Φ : List Res} {l mk : Nat} {rec : LoopState → Option Code → Loop} {body : Code} {R : Post}

theorem putObj_same {w : World} {l : Nat} {o : Obj} (h : l < w.heap.size) : (w.putObj l o).heap[l]? = some o := World.putObj_heap_same h

theorem sp_asg {r : Loop} (hr : r.state = .ready) (hB : Upd B (.obj l (.loop r)) (.obj l (.loop { r with state := .busy })) B') (hc : c.r = some l) (k : SW c ρ B' Φ [] body R) : SP c ρ B Φ [] .normal (AQ c l body R) := fun a w hs => by
  obtain ⟨V, U, M, m⟩ := hs.mem
  have hl : w.heap[l]? = some (.loop r) := m.sep.holds _ hB.mem
  refine ⟨_, run_beginRound hl hr, ?_⟩
  have h := k a (w.putObj l (.loop { r with state := .busy })) (hs.mem' (hB.marks rfl) (m.turn hB rfl (putObj_same (Array.getElem?_eq_some_iff.1 hl).1) (by simp [World.putObj]) fun k hk => putObj_other fun e => hk (by rw [e]; rfl)))
  rw [hc] at h
  exact h

/-- The facts of a round's end: what is there becomes the loop's. -/
theorem round_end {σ ι : Type} {Bs : σ → ι → List Own} {Φs : σ → ι → List Res} {jmp : σ → Option Code} {s' : σ} {i' : ι} {U : Av} (hrec : ∀ st j, rec st j = { rec .busy none with state := st, pending := j }) (hsub : (two rec l mk .busy none (Bs s' i')).Sublist B) (hΦ : ∀ φ ∈ Φs s' i', φ ∈ Φ)
    (hG : cl.G = c.G) (hX : ∀ b, cl.X b → c.X b) (hU : ∀ b, U b → c.X b) (hK : ∀ b, c.K b → (cl.K b ∨ cl.w0.heap.size ≤ b) ∧ ¬ cl.X b) (hw0 : cl.w0.heap.size ≤ c.w0.heap.size) (hxl : ∀ b, cl.X b → b < cl.w0.heap.size) {a : Act} {w : World} (hs : St c ρ B Φ [] a w) :
    ∃ w', (Instr.endRound l (jmp s')).run c.P w = .ok (.bool (jmp s').isNone) w' ∧ ∃ M', (JL cl rec l mk Bs Φs jmp s').p M' U w' ∧ (∀ b, M' b → (c.K b ∨ c.w0.heap.size ≤ b) ∧ b < w'.heap.size) ∧ (c.w0.heap.size ≤ w'.heap.size ∧ Io c.w0 w') ∧ ∀ b, b < c.w0.heap.size → ¬ c.K b → ¬ c.Y b → w'.heap[b]? = c.w0.heap[b]? := by
  obtain ⟨V, U1, M, m⟩ := hs.mem
  have hin : ∀ o ∈ two rec l mk .busy none (Bs s' i'), o ∈ B := fun o ho => hsub.subset ho
  have hl : w.heap[l]? = some (.loop (rec .busy none)) := m.sep.holds _ (hin _ (.head _))
  have hlt := (Array.getElem?_eq_some_iff.1 hl).1
  have hbl : ∀ st j b, blks (two rec l mk st j (Bs s' i')) b → blks B b := fun st j b ⟨o, ho, e⟩ => by
    unfold two at ho
    cases ho with
    | head => exact ⟨_, hin _ (.head _), e⟩
    | tail _ ho => exact ⟨_, hin _ (.tail _ ho), e⟩
  have hE : ({ rec .busy none with state := if (jmp s').isNone then .ready else .done, pending := jmp s' } : Loop) = rec (stOf (jmp s')) (jmp s') := by
    rw [hrec (stOf (jmp s')) (jmp s')]; cases jmp s' <;> rfl
  have hrun := run_endRound (P := c.P) (jmp s') hl
  rw [hE] at hrun
  have hsep0 : Sep (two rec l mk .busy none (Bs s' i')) w := ⟨fun o ho => m.sep.holds o (hin o ho), m.sep.apart.sublist hsub⟩
  have hap := List.pairwise_cons.1 hsep0.apart
  have hsep : Sep (two rec l mk (stOf (jmp s')) (jmp s') (Bs s' i')) (w.putObj l (.loop (rec (stOf (jmp s')) (jmp s')))) := by
    refine ⟨fun o ho => ?_, List.pairwise_cons.2 ⟨fun o ho b h1 h2 => hap.1 o ho b h1 h2, hap.2⟩⟩
    cases ho with
    | head => exact putObj_same hlt
    | tail _ ho => exact Own.keep (hsep0.holds o (.tail _ ho)) fun b hb => putObj_other fun e => hap.1 o ho b (by rw [e]; rfl) hb
  have kv : Kept V V w (w.putObj l (.loop (rec (stOf (jmp s')) (jmp s')))) := ⟨by simp [World.putObj], fun b _ hn => putObj_other fun e => hn (m.vb b ⟨_, hin _ (.head _), by rw [e]; rfl⟩), fun b _ h => h⟩
  have hown : ∀ b, blks B b → (cl.K b ∨ cl.w0.heap.size ≤ b) ∧ ¬ cl.X b := fun b h => by
    rcases (m.own b h).1 with h' | h'
    · exact hK b h'
    · exact ⟨.inr (by omega), fun hx => by have := hxl b hx; omega⟩
  refine ⟨_, hrun, blks (two rec l mk (stOf (jmp s')) (jmp s') (Bs s' i')), ⟨i', V, fun b h => m.vx b (hU b h), fun b h => m.vx b (hX b h), fun b h => m.vb b (hbl _ _ b h), fun b h => ⟨fun h' => (m.own b (hbl _ _ b h)).2.1 (hU b h'), hsep.lt h, hown b (hbl _ _ b h)⟩, hsep, fun b h => h,
    fun φ hφ => φ.st kv (m.phi φ (hΦ φ hφ)), by rw [hG]; exact c.G.st kv m.g, by have := m.sz; simp [World.putObj]; omega⟩, fun b h => ⟨(m.own b (hbl _ _ b h)).1, hsep.lt h⟩, ⟨by have := m.sz; simpa [World.putObj] using this, m.io.trans ⟨rfl, rfl, rfl⟩⟩, fun b h1 h2 h3 => ?_⟩
  refine Eq.trans (putObj_other fun e => ?_) (m.frame b h1 h2 h3)
  rcases (m.own b ⟨_, hin _ (.head _), by rw [e]; rfl⟩).1 with h | h
  · exact h2 h
  · omega

/-- What ties a round's context to its loop's. -/
structure Tied (c cl : Ctx) (U : Av) : Prop where
  hG : cl.G = c.G
  hX : ∀ b, cl.X b → c.X b
  hU : ∀ b, U b → c.X b
  hK : ∀ b, c.K b → (cl.K b ∨ cl.w0.heap.size ≤ b) ∧ ¬ cl.X b
  hw0 : cl.w0.heap.size ≤ c.w0.heap.size
  hxl : ∀ b, cl.X b → b < cl.w0.heap.size
  hY : c.Y = NoAv
  hrec : True

section
variable {σ ι : Type} {Bs : σ → ι → List Own} {Φs : σ → ι → List Res} {jmp : σ → Option Code} {s' : σ} {i' : ι} {U : Av}
theorem sp_round (ht : Tied c cl U) (hrec : ∀ st j, rec st j = { rec .busy none with state := st, pending := j }) (hj : jmp s' = none) (hsub : (two rec l mk .busy none (Bs s' i')).Sublist B) (hΦ : ∀ φ ∈ Φs s' i', φ ∈ Φ) : SP c ρ B Φ [] .normal (RQ c cl rec l mk Bs Φs jmp s' U) := fun a w hs => by
  obtain ⟨w', h1, M', h2, h3, h4, h5⟩ := round_end (jmp := jmp) hrec hsub hΦ ht.hG ht.hX ht.hU ht.hK ht.hw0 ht.hxl hs
  rw [hj] at h1
  exact ⟨_, w', h1, by rw [hj], M', h2, h3, h4, fun b h6 h7 => h5 b h6 h7 (by rw [ht.hY]; exact fun h => h)⟩
theorem sp_round_ret (ht : Tied c cl U) (hrec : ∀ st j, rec st j = { rec .busy none with state := st, pending := j }) (hj : jmp s' = some .ret) (hsub : (two rec l mk .busy none (Bs s' i')).Sublist B) (hΦ : ∀ φ ∈ Φs s' i', φ ∈ Φ) : SP c ρ B Φ [] .ret (RQ c cl rec l mk Bs Φs jmp s' U) := fun a w hs => by
  obtain ⟨w', h1, M', h2, h3, h4, h5⟩ := round_end (jmp := jmp) hrec hsub hΦ ht.hG ht.hX ht.hU ht.hK ht.hw0 ht.hxl hs
  rw [hj] at h1
  exact ⟨_, w', h1, by rw [hj], M', h2, h3, h4, fun b h6 h7 => h5 b h6 h7 (by rw [ht.hY]; exact fun h => h)⟩
theorem sp_round_exit {i : Nat} (ht : Tied c cl U) (hrec : ∀ st j, rec st j = { rec .busy none with state := st, pending := j }) (hj : jmp s' = some (.exit i)) (hsub : (two rec l mk .busy none (Bs s' i')).Sublist B) (hΦ : ∀ φ ∈ Φs s' i', φ ∈ Φ) : SP c ρ B Φ [] (.exit i) (RQ c cl rec l mk Bs Φs jmp s' U) := fun a w hs => by
  obtain ⟨w', h1, M', h2, h3, h4, h5⟩ := round_end (jmp := jmp) hrec hsub hΦ ht.hG ht.hX ht.hU ht.hK ht.hw0 ht.hxl hs
  rw [hj] at h1
  exact ⟨_, w', h1, by rw [hj], M', h2, h3, h4, fun b h6 h7 => h5 b h6 h7 (by rw [ht.hY]; exact fun h => h)⟩
end
end

theorem pr_regs {c : Ctx} : ∀ (ps : List Nat) (vs : List Value) (ρ : List (Nat × Value)) (t : Array Value), (∀ p ∈ ps, p < t.size) → (∀ k v, lk ρ k = some v → t.getD k undef = v) →
    ∀ k v, lk (pr ps vs ρ) k = some v → ((ps.zip vs).foldl (fun t q => t.setIfInBounds q.1 q.2) t).getD k undef = v
  | [], vs, ρ, t, _, h => by cases vs <;> exact h
  | p :: ps, [], ρ, t, _, h => h
  | p :: ps, v :: vs, ρ, t, hp, h => by
    refine pr_regs (c := c) ps vs ((p, v) :: ρ) (t.setIfInBounds p v) (fun q hq => by simpa using hp q (.tail _ hq)) fun k u hk => ?_
    rw [lk_cons] at hk
    split at hk
    · rename_i e; subst e; cases hk
      have := hp p (.head _)
      simp [this]
    · rename_i e
      have := h k u hk
      simp only [Array.getD_eq_getD_getElem?] at this ⊢
      rw [Array.getElem?_setIfInBounds_ne e]; exact this

theorem size_foldl_set (l : List (Nat × Value)) (t : Array Value) : (l.foldl (fun t q => t.setIfInBounds q.1 q.2) t).size = t.size := by
  induction l generalizing t with
  | nil => rfl
  | cons q l ih => simp [ih]

section
variable {c : Ctx} {ρ : List (Nat × Value)} {Bp : List Own} {Φ Φp : List Res} {Q : Post}

/-- 'for .. := range g { .. }' in a function's own body. -/
theorem sw_range {σ ι α : Type} {gf : FuncId} {g : Operand} {caps : List Value} {ps : List Tmp} {assign body : Code} {E : α → List Value → Res} {L : List α}
    (hc : ICtr c.P c.G gf caps Bp Φp E L) (hr : c.r = none) (hg : ev ρ g = some (.func (.func gf) #[] caps.toArray))
    (Bs : σ → ι → List Own) (Φs : σ → ι → List Res) (jmp : σ → Option Code) (Y : σ → α → σ) (A : σ → α → Prop) (s0 : σ) (i0 : ι) (hA : Adm Y (fun s => (jmp s).isNone) A s0 L) (hj0 : jmp s0 = none) (hΦp : ∀ φ ∈ Φp, φ ∈ Φ) (hΦs : ∀ φ ∈ Φs s0 i0, φ ∈ Φ) (hmk : ∀ s i, marks (Bs s i) = marks (Bs s0 i0)) (hps : ∀ p ∈ ps, p < c.nt) (hE : ∀ x vs V w, (E x vs).p V w → vs.length = ps.length)
    (hbody : ∀ (l mk : Nat) (rec : LoopState → Option Code → Loop) (w : World) (X U K : Av) (s : σ) (i : ι) (x : α) (vs : List Value), (∀ st j, rec st j = { rec .busy none with state := st, pending := j }) → jmp s = none → A s x → Tied ⟨c.P, some l, c.nt, w, X, K, NoAv, c.G⟩ c U →
      SW ⟨c.P, some l, c.nt, w, X, K, NoAv, c.G⟩ (pr ps vs ρ) (two rec l mk .ready none (Bs s i)) (E x vs :: Φs s i) [] assign (AQ ⟨c.P, some l, c.nt, w, X, K, NoAv, c.G⟩ l body (RQ ⟨c.P, some l, c.nt, w, X, K, NoAv, c.G⟩ c rec l mk Bs Φs jmp (Y s x) U)))
    (hend : ∀ s' i' B' Φ' mk, over L σ Y (fun s => (jmp s).isNone) s0 s' B' Φ' → (jmp s' = none → SP c ρ (.mark mk :: (B' ++ Bs s' i')) (Φ' ++ Φs s' i') [] .normal Q) ∧ ∀ j, jmp s' = some j → SW c ρ (.mark mk :: (B' ++ Bs s' i')) (Φ' ++ Φs s' i') [] j Q) :
    SW c ρ (Bp ++ Bs s0 i0) Φ [] (.rangeFunc g ps.toArray assign body) Q := by
  intro a w hs
  obtain ⟨V, U0, M0, m⟩ := hs.mem
  rw [hr]
  refine wpIn_rangeFunc fun fn _ => ?_
  obtain ⟨rec, hrec⟩ : ∃ rec : LoopState → Option Code → Loop, rec = recOf fn a.tmps ps.toArray assign body w.heap.size := ⟨_, rfl⟩
  have hrecB : ∀ st j, rec st j = { rec .busy none with state := st, pending := j } := fun st j => by rw [hrec]; rfl
  obtain ⟨w1, hw1⟩ : ∃ w1, w1 = (w.alloc (.deferred (some []))).alloc (.loop (rec .ready none)) := ⟨_, rfl⟩
  have hsz1 : w1.heap.size = w.heap.size + 2 := by rw [hw1]; simp
  have hold : ∀ b, b < w.heap.size → w1.heap[b]? = w.heap[b]? := fun b hb => by rw [hw1]; exact (heap_alloc_old _ _ _ (by simp; omega)).trans (heap_alloc_old _ _ _ hb)
  have hL1 : w1.heap[w.heap.size + 1]? = some (.loop (rec .ready none)) := by
    rw [hw1]; have := heap_alloc_new (w.alloc (.deferred (some []))) (.loop (rec .ready none)); rwa [World.size_alloc] at this
  have hK1 : w1.heap[w.heap.size]? = some (.deferred (some [])) := by
    rw [hw1]; exact (heap_alloc_old _ _ _ (by simp)).trans (heap_alloc_new w _)
  have hBs : ∀ b, blks (Bs s0 i0) b → blks (Bp ++ Bs s0 i0) b := fun b h => blks_append.2 (.inr h)
  have hBp : ∀ b, blks Bp b → blks (Bp ++ Bs s0 i0) b := fun b h => blks_append.2 (.inl h)
  have hdis : ∀ b, blks (Bs s0 i0) b → ¬ blks Bp b := fun b ⟨o, ho, e⟩ ⟨o', ho', e'⟩ => (List.pairwise_append.1 m.sep.apart).2.2 o' ho' o ho b e' e
  have htwo : ∀ st j s i b, blks (two rec (w.heap.size + 1) w.heap.size st j (Bs s i)) b ↔ b = w.heap.size + 1 ∨ b = w.heap.size ∨ blks (Bs s i) b := fun st j s i b => by
    simp only [two, blks, List.mem_cons, exists_eq_or_imp, Own.blk, Option.some.injEq]
    constructor
    · rintro (h | h | h)
      · exact .inl h.symm
      · exact .inr (.inl h.symm)
      · exact .inr (.inr h)
    · rintro (h | h | h)
      · exact .inl h.symm
      · exact .inr (.inl h.symm)
      · exact .inr (.inr h)
  have hsepS : Sep (Bs s0 i0) w := ⟨fun o ho => m.sep.holds o (List.mem_append_right _ ho), (List.pairwise_append.1 m.sep.apart).2.1⟩
  have hsep2 : Sep (two rec (w.heap.size + 1) w.heap.size .ready none (Bs s0 i0)) w1 := by
    refine ⟨fun o ho => ?_, List.pairwise_cons.2 ⟨fun o ho b h1 h2 => ?_, List.pairwise_cons.2 ⟨fun o ho b h1 h2 => ?_, hsepS.apart⟩⟩⟩
    · unfold two at ho
      cases ho with
      | head => exact hL1
      | tail _ ho => cases ho with
        | head => exact hK1
        | tail _ ho => exact Own.keep (hsepS.holds o ho) fun b hb => hold b (Own.lt (hsepS.holds o ho) hb)
    · cases h1
      cases ho with
      | head => simp [Own.blk] at h2
      | tail _ ho => have := Own.lt (hsepS.holds o ho) h2; omega
    · cases h1
      have := Own.lt (hsepS.holds o ho) h2
      omega
  have hX : ∀ b, (V b ∧ ¬ blks Bp b ∨ b = w.heap.size + 1 ∨ b = w.heap.size) → b < w1.heap.size := fun b h => by
    rcases h with h | h | h
    · have := m.vlt b h.1; omega
    · omega
    · omega
  have kv1 : ∀ V' : Av, (∀ b, b < w.heap.size → V' b → V b) → Kept V V' w w1 := fun V' h => ⟨by omega, fun b hl _ => hold b hl, h⟩
  refine ⟨w.heap.size + 1, [{ target := .collected w.heap.size, args := #[] }], w1, { target := .fn (.func gf) caps.toArray, args := #[yv (w.heap.size + 1)] }, w1, gf, (yv (w.heap.size + 1) :: caps).toArray, w1, ?_, ?_, fun _ _ => trivial, ?_, fun h => (by cases h), ?_⟩
  · rw [hw1, hrec]; exact run_enterLoop_outer _ _ _ _ _
  · simp only [resolve, hs.ev hg]
    simp [Deferred.ofValue, Act.eval, yv]
  · simp only [invoke]
    rw [hc.enters]
    simp
  · have hJ0 : (JL c rec (w.heap.size + 1) w.heap.size Bs Φs jmp s0).p (blks (two rec (w.heap.size + 1) w.heap.size .ready none (Bs s0 i0))) (blks Bp) w1 := by
      refine ⟨i0, fun b => V b ∨ b = w.heap.size + 1 ∨ b = w.heap.size, fun b h => .inl (m.vb b (hBp b h)), fun b h => .inl (m.vx b h), fun b h => ?_, fun b h => ?_, by rw [hj0]; exact hsep2, by rw [hj0]; exact fun b h => h, fun φ hφ => φ.st (kv1 _ fun b hl h => ?_) (m.phi φ (hΦs φ hφ)), c.G.st (kv1 _ fun b hl h => ?_) m.g, by have := m.sz; omega⟩
      · rcases (htwo _ _ _ _ b).1 h with h | h | h
        · exact .inr (.inl h)
        · exact .inr (.inr h)
        · exact .inl (m.vb b (hBs b h))
      · have hlt := hsep2.lt h
        have hsz := m.sz
        rcases (htwo _ _ _ _ b).1 h with h | h | h
        · exact ⟨fun h' => by have := (sep_left m.sep).lt h'; omega, hlt, .inr (by omega), fun hx => by have := m.xlt b hx; omega⟩
        · exact ⟨fun h' => by have := (sep_left m.sep).lt h'; omega, hlt, .inr (by omega), fun hx => by have := m.xlt b hx; omega⟩
        · exact ⟨hdis b h, hlt, (m.own b (hBs b h)).1, (m.own b (hBs b h)).2.1⟩
      · rcases h with h | h | h
        · exact h
        · omega
        · omega
      · rcases h with h | h | h
        · exact h
        · omega
        · omega
    have hcall := hc.calls σ (JL c rec (w.heap.size + 1) w.heap.size Bs Φs jmp) Y (fun s => (jmp s).isNone) A (w.heap.size + 1) s0 w1 (fun b => V b ∧ ¬ blks Bp b ∨ b = w.heap.size + 1 ∨ b = w.heap.size) (blks (two rec (w.heap.size + 1) w.heap.size .ready none (Bs s0 i0))) hX
      ((sep_left m.sep).keep fun b hb => hold b ((sep_left m.sep).lt hb)) (fun b h h' => by
        have := (sep_left m.sep).lt h
        rcases h' with h' | h' | h'
        · exact h'.2 h
        · omega
        · omega) (fun b h => by
        rcases (htwo _ _ _ _ b).1 h with h | h | h
        · exact .inr (.inl h)
        · exact .inr (.inr h)
        · exact .inl ⟨m.vb b (hBs b h), hdis b h⟩) (fun φ hφ => φ.st (kv1 _ fun b hl h => by
          rcases h with (h | h | h) | h
          · exact h.1
          · omega
          · omega
          · exact m.vb b (hBp b h)) (m.phi φ (hΦp φ hφ))) (c.G.st (kv1 _ fun b hl h => by
          rcases h with (h | h | h) | h
          · exact h.1
          · omega
          · omega
          · exact m.vb b (hBp b h)) m.g) hJ0 (by rw [hj0]; rfl) hA ?_
    · refine callsIn_fr (hcall.mono ?_)
      rintro e w2 ⟨v, s', M', B', Φ', rfl, hR, hm', hsep', hbl', hphi', ⟨i', VJ, j1, j2, j3, j4, j5, j6, j7, j8, j9⟩, hM', ⟨hsz', hio'⟩, hk'⟩
      have hl2 : w2.heap[w.heap.size + 1]? = some (.loop (rec (stOf (jmp s')) (jmp s'))) := j5.holds _ (.head _)
      have hmk2 : w2.heap[w.heap.size]? = some (.deferred (some [])) := j5.holds _ (.tail _ (.head _))
      have hend1 := run_endLoop (P := c.P) hl2 (by rw [hrec]; cases jmp s' <;> simp [recOf, stOf])
      have hpend : (rec (stOf (jmp s')) (jmp s')).pending = jmp s' := by rw [hrec]; rfl
      have hM2 : ∀ b, b = w.heap.size + 1 ∨ b = w.heap.size ∨ blks (Bs s' i') b → M' b := fun b h => j6 b ((htwo _ _ _ _ b).2 h)
      obtain ⟨w4, hw4⟩ : ∃ w4, w4 = w2.putObj (w.heap.size + 1) (.loop { rec (stOf (jmp s')) (jmp s') with state := .exhausted }) := ⟨_, rfl⟩
      have hsz4 : w4.heap.size = w2.heap.size := by rw [hw4]; simp [World.putObj]
      have hk4 : ∀ b, b ≠ w.heap.size + 1 → w4.heap[b]? = w2.heap[b]? := fun b hb => by rw [hw4]; exact putObj_other hb
      have hst : St c ρ (.mark w.heap.size :: (B' ++ Bs s' i')) (Φ' ++ Φs s' i') [] { a with defers := [{ target := .collected w.heap.size, args := #[] }] ++ a.defers } w4 := by
        have hblk4 : ∀ b, blks (.mark w.heap.size :: (B' ++ Bs s' i')) b → b = w.heap.size ∨ blks B' b ∨ blks (Bs s' i') b := fun b ⟨o, ho, e⟩ => by
          cases ho with
          | head => cases e; exact .inl rfl
          | tail _ ho => rcases List.mem_append.1 ho with ho | ho
                         · exact .inr (.inl ⟨o, ho, e⟩)
                         · exact .inr (.inr ⟨o, ho, e⟩)
        have hnl : ∀ b, blks (.mark w.heap.size :: (B' ++ Bs s' i')) b → b ≠ w.heap.size + 1 := fun b h e => by
          rcases hblk4 b h with h | h | h
          · omega
          · exact (hbl' b h).2.1 (hM2 b (.inl e))
          · obtain ⟨o, ho, e'⟩ := h
            exact (List.pairwise_cons.1 j5.apart).1 o (.tail _ ho) b (by rw [e]; rfl) e'
        have hsepB : Sep (Bs s' i') w2 := ⟨fun o ho => j5.holds o (.tail _ (.tail _ ho)), (List.pairwise_cons.1 (List.pairwise_cons.1 j5.apart).2).2⟩
        have hsep4 : Sep (.mark w.heap.size :: (B' ++ Bs s' i')) w2 := by
          refine ⟨fun o ho => ?_, List.pairwise_cons.2 ⟨fun o ho b h1 h2 => ?_, List.pairwise_append.2 ⟨hsep'.apart, hsepB.apart, fun o ho o' ho' b h1 h2 => ?_⟩⟩⟩
          · cases ho with
            | head => exact hmk2
            | tail _ ho => rcases List.mem_append.1 ho with ho | ho
                           · exact hsep'.holds o ho
                           · exact hsepB.holds o ho
          · cases h1
            rcases List.mem_append.1 ho with ho | ho
            · exact (hbl' _ ⟨o, ho, h2⟩).2.1 (hM2 _ (.inr (.inl rfl)))
            · exact (List.pairwise_cons.1 (List.pairwise_cons.1 j5.apart).2).1 o ho _ rfl h2
          · exact (hbl' b ⟨o, ho, h1⟩).2.1 (hM2 b (.inr (.inr ⟨o', ho', h2⟩)))
        refine ⟨hs.nt, hs.reg, ?_, fun b => c.X b ∨ blks (.mark w.heap.size :: (B' ++ Bs s' i')) b, fun b => c.X b ∨ blks (.mark w.heap.size :: (B' ++ Bs s' i')) b, NoAv, ?_⟩
        · have h1 : a.defers = marks (Bp ++ Bs s0 i0) := hs.dfr.trans (by unfold dfs; rw [hr])
          rw [marks_append, hc.nomark, List.nil_append] at h1
          show [_] ++ a.defers = dfs c (.mark w.heap.size :: (B' ++ Bs s' i'))
          rw [show dfs c (.mark w.heap.size :: (B' ++ Bs s' i')) = marks (.mark w.heap.size :: (B' ++ Bs s' i')) by unfold dfs; rw [hr]]
          rw [marks_cons, marks_append, hm', hmk s' i', ← h1]
          rfl
        · have kvJ : Kept VJ (fun b => c.X b ∨ blks (.mark w.heap.size :: (B' ++ Bs s' i')) b) w2 w4 := ⟨by omega, fun b _ hn => hk4 b fun e => hn (j3 b (hM2 b (.inl e))), fun b _ h => by
            rcases h with h | h
            · exact j2 b h
            · rcases hblk4 b h with h | h | h
              · exact j3 b (hM2 b (.inr (.inl h)))
              · exact j1 b h
              · exact j3 b (hM2 b (.inr (.inr h)))⟩
          have kvI : Kept (Or' (Or' (fun b => V b ∧ ¬ blks Bp b ∨ b = w.heap.size + 1 ∨ b = w.heap.size) M') (blks B')) (fun b => c.X b ∨ blks (.mark w.heap.size :: (B' ++ Bs s' i')) b) w2 w4 := ⟨by omega, fun b _ hn => hk4 b fun e => hn (.inl (.inl (.inr (.inl e)))), fun b _ h => by
            rcases h with h | h
            · exact .inl (.inl (.inl ⟨m.vx b h, fun h' => (m.own b (hBp b h')).2.1 h⟩))
            · rcases hblk4 b h with h | h | h
              · exact .inl (.inr (hM2 b (.inr (.inl h))))
              · exact .inr h
              · exact .inl (.inr (hM2 b (.inr (.inr h))))⟩
          have hszw := m.sz
          have hio4 : Io c.w0 w4 := m.io.trans (Io.trans (b := w1) ⟨by rw [hw1]; rfl, by rw [hw1]; rfl, by rw [hw1]; rfl⟩ (hio'.trans ⟨by rw [hw4]; rfl, by rw [hw4]; rfl, by rw [hw4]; rfl⟩))
          refine ⟨fun b h => .inl h, fun b h => h.elim, fun b h => .inr h, fun b h => ?_, fun b h => .inr h, fun b h => ?_, hsep4.keep fun b hb => hk4 b (hnl b hb), fun b h => ?_, fun φ hφ => ?_, fun ψ h => (by cases h), c.G.st kvJ j8, by omega, fun b h1 h2 h3 => ?_, m.xlt, fun b h => h.elim, hio4⟩
          · rcases h with h | h
            · have := m.xlt b h; omega
            · have := hsep4.lt h; omega
          · rcases h with h | h
            · have := m.xlt b h; omega
            · have := hsep4.lt h; omega
          · rcases hblk4 b h with h | h | h
            · exact ⟨.inr (by omega), fun hx => by have := m.xlt b hx; omega, fun h => h⟩
            · rcases (hbl' b h).2.2 with h' | h'
              · exact ⟨(m.own b (hBp b h')).1, (m.own b (hBp b h')).2.1, fun h => h⟩
              · exact ⟨.inr (by omega), fun hx => by have := m.xlt b hx; omega, fun h => h⟩
            · obtain ⟨_, _, a3, a4⟩ := j4 b (hM2 b (.inr (.inr h)))
              exact ⟨a3, a4, fun h => h⟩
          · rcases List.mem_append.1 hφ with hφ | hφ
            · exact φ.st kvI (hphi' φ hφ)
            · exact φ.st kvJ (j7 φ hφ)
          · refine (hk4 b (by omega)).trans ((hk' b (by omega) (fun h => ?_) (fun h => ?_)).trans ((hold b (by omega)).trans (m.frame b h1 h2 h3)))
            · rcases (m.own b (hBp b h)).1 with h' | h'
              · exact h2 h'
              · omega
            · rcases (htwo _ _ _ _ b).1 h with h | h | h
              · omega
              · omega
              · rcases (m.own b (hBs b h)).1 with h' | h'
                · exact h2 h'
                · omega
      obtain ⟨e1, e2⟩ := hend s' i' B' Φ' w.heap.size hR
      refine ⟨(rec (stOf (jmp s')) (jmp s')).pending, w4, by rw [hw4]; exact hend1, ?_⟩
      rw [hpend]
      cases hjs : jmp s' with
      | none => exact e1 hjs _ w4 hst
      | some j =>
        have := e2 j hjs _ w4 hst
        rw [hr] at this
        exact this
    · -- a round
      intro s x vs wy VE U M hgo hAs hXV hJ hMV hUV hVlt hEl
      have hj : jmp s = none := by simpa using hgo
      obtain ⟨i, VJ, j1, j2, j3, j4, j5, j6, j7, j8, j9⟩ := hJ
      rw [hj] at j5 j6
      have hl : wy.heap[w.heap.size + 1]? = some (.loop (rec .ready none)) := j5.holds _ (.head _)
      have hlen := hE x vs VE wy hEl
      have hy := run_yield (P := c.P) (args := vs.toArray) hl (by rw [hrec]; simp [recOf, hlen])
      rw [hrec] at hy
      have htied : Tied ⟨c.P, some (w.heap.size + 1), c.nt, wy, fun b => (U b ∨ c.X b), M, NoAv, c.G⟩ c U := ⟨rfl, fun b h => .inr h, fun b h => .inl h, fun b h => ⟨(j4 b h).2.2.1, (j4 b h).2.2.2⟩, j9, m.xlt, rfl, trivial⟩
      have hbd := hbody (w.heap.size + 1) w.heap.size rec wy (fun b => (U b ∨ c.X b)) U M s i x vs hrecB hj hAs htied { tmps := (ps.zip vs).foldl (fun t q => t.setIfInBounds q.1 q.2) a.tmps, defers := [] } wy ⟨by rw [size_foldl_set]; exact hs.nt, pr_regs (c := c) ps vs ρ a.tmps (fun p hp => by rw [hs.nt]; exact hps p hp) hs.reg, ?_,
        fun b => (VJ b ∧ VE b), fun b => blks (two rec (w.heap.size + 1) w.heap.size .ready none (Bs s i)) b, NoAv, ?_⟩
      · refine ⟨fn, _, assign, body, hy, roundIn_of_wpIn trivial (n := 0) ?_⟩
        have hbd' : assign.wpIn (Fr (some (w.heap.size + 1))) 0 c.P (AQ ⟨c.P, some (w.heap.size + 1), c.nt, wy, fun b => (U b ∨ c.X b), M, NoAv, c.G⟩ (w.heap.size + 1) body (RQ ⟨c.P, some (w.heap.size + 1), c.nt, wy, fun b => (U b ∨ c.X b), M, NoAv, c.G⟩ c rec (w.heap.size + 1) w.heap.size Bs Φs jmp (Y s x) U)) { tmps := (ps.zip vs).foldl (fun t q => t.setIfInBounds q.1 q.2) a.tmps, defers := [] } wy := hbd
        have hz : ((recOf fn a.tmps ps.toArray assign body w.heap.size .ready none).params.zip vs.toArray).foldl (fun tmps (t, a) => tmps.setIfInBounds t a) (recOf fn a.tmps ps.toArray assign body w.heap.size .ready none).tmps = (ps.zip vs).foldl (fun t q => t.setIfInBounds q.1 q.2) a.tmps := by
          simp [recOf]
        rw [hz]
        exact hbd'
      · rfl
      · have hXc : ∀ b, c.X b → VE b := fun b h => hXV b (.inl ⟨m.vx b h, fun h' => (m.own b (hBp b h')).2.1 h⟩)
        refine ⟨fun b h => h.elim (fun h => ⟨j1 b h, hUV b h⟩) fun h => ⟨j2 b h, hXc b h⟩, fun b h => h.elim, fun b h => ⟨j3 b (j6 b h), hMV b (j6 b h)⟩, fun b h => hVlt b h.2, fun b h => h, fun b h => j5.lt h, j5, fun b h => ⟨.inl (j6 b h), fun h' => h'.elim (j4 b (j6 b h)).1 (j4 b (j6 b h)).2.2.2, fun h => h⟩,
          List.forall_mem_cons.2 ⟨(E x vs).less hEl fun b h => h.2, fun φ hφ => φ.less (j7 φ hφ) fun b h => h.1⟩, fun ψ h => (by cases h), c.G.less j8 fun b h => h.1, Nat.le_refl _, fun _ _ _ _ => rfl, fun b h => h.elim (fun h => hVlt b (hUV b h)) fun h => hVlt b (hXc b h), fun b h => h.elim, Io.refl wy⟩
end
end Go.Proofs.YtjahiohlekdhoaaDoor

namespace Go.Proofs.YtjahiohlekdhoaaDoor
open Go

/-- An operation that runs to a value wherever the state holds, the world as it was. -/
def Qt (c : Ctx) (ρ : List (Nat × Value)) (B : List Own) (Φ : List Res) (Ψ : List JR) (o : Op) (ty : TypeId) (v : Value) : Prop :=
  ∀ a w, St c ρ B Φ Ψ a w → ∀ d ps af g, (execOp a.eval ⟨d, o, ty, ps, af, g⟩).run c.P w = .ok (.value v) w

def MI (c : Ctx) (B : List Own) (Φ : List Res) (Ψ : List JR) (w : World) : Prop := ∃ V U M, MS c B Φ Ψ V U M w

theorem execOp_pos (e : Operand → Value) (d d' : Option Tmp) (o : Op) (ty : TypeId) (ps ps' : String) (af af' : Array Edge) (g g' : Option (Nat × Bool)) :
    execOp e ⟨d, o, ty, ps, af, g⟩ = execOp e ⟨d', o, ty, ps', af', g'⟩ := by
  unfold execOp
  cases o <;> rfl

/-- Out of a rule for one operation in a plain region: what it says of the run. -/
def okOps (l : List Oper) : Bool := (l.zipIdx.all fun p => p.1.after.all fun e => !Region.binds .any e || Nat.blt e.on p.2) && l.all fun o => match o.op with | .select _ _ | .defer _ => false | _ => true

def rdy (ops : Array Oper) (todo : List Nat) (i : Nat) : Bool := match ops[i]? with
  | some o => o.after.all fun e => !Region.binds .any e || !(todo.contains e.on)
  | none => false

def WAI (P : Program) (r : Option Nat) (ops : Array Oper) (Q : Post) (I : List Nat → World → Prop) : Nat → List Nat → Act → World → Prop
  | 0, todo, a, w => todo = [] ∧ Q .normal a w
  | n + 1, todo, a, w => (todo = [] → Q .normal a w) ∧ ∀ i ∈ todo, rdy ops todo i = true → wpOpIn (Fr r) 0 P ops Q i (fun a' w' => I (todo.erase i) w' ∧ WAI P r ops Q I n (todo.erase i) a' w') a w

section
variable {P : Program} {r : Option Nat} {ops : Array Oper} {Q : Post} {I : List Nat → World → Prop} {RI : World → Prop}

theorem min_of : ∀ (l : List Nat), l ≠ [] → ∃ m ∈ l, ∀ k ∈ l, m ≤ k
  | [], h => absurd rfl h
  | [x], _ => ⟨x, .head _, fun k hk => by simp at hk; omega⟩
  | x :: y :: l, _ => by
    obtain ⟨m, hm, hle⟩ := min_of (y :: l) (by simp)
    by_cases h : x ≤ m
    · exact ⟨x, .head _, fun k hk => by
        cases hk with
        | head => exact Nat.le_refl _
        | tail _ hk => exact Nat.le_trans h (hle k hk)⟩
    · exact ⟨m, .tail _ hm, fun k hk => by
        cases hk with
        | head => omega
        | tail _ hk => exact hle k hk⟩

theorem wai_sound (hok : okOps ops.toList = true) : ∀ (n : Nat) (todo : List Nat) (listed : Array Bool) (a : Act) (w : World), listed.size = ops.size → todo.Nodup → (∀ i ∈ todo, i < ops.size) → (∀ i, i < ops.size → (listed.getD i true = false ↔ i ∈ todo)) →
    todo.length ≤ n → WAI P r ops Q I n todo a w → wpAnyIn (Fr r) 0 P .any ops Q n listed a w := by
  have hedge : ∀ (i : Nat) (o : Oper), ops[i]? = some o → ∀ e ∈ o.after, Region.binds .any e = true → e.on < i := fun i o ho e he hb => by
    have h1 := (Bool.and_eq_true _ _ ▸ hok).1
    have h2 := List.all_eq_true.1 h1 (o, i) (by
      rw [List.mem_zipIdx_iff_getElem?]; simpa using ho)
    have h3 := (Array.all_eq_true_iff_forall_mem.1 h2) e he
    simpa [Nat.blt_eq, hb] using h3
  have hnone : ∀ (todo : List Nat) (listed : Array Bool), listed.size = ops.size → (∀ i ∈ todo, i < ops.size) → (∀ i, i < ops.size → (listed.getD i true = false ↔ i ∈ todo)) → Region.ready .any ops listed = [] → todo = [] := by
    intro todo listed hsz hlt hl hr
    by_cases h : todo = []
    · exact h
    · obtain ⟨m, hm, hle⟩ := min_of todo h
      have hmlt := hlt m hm
      have : m ∈ Region.ready .any ops listed := mem_ready.2 ⟨(hl m hmlt).2 hm, ops[m], Array.getElem?_eq_getElem hmlt, fun e he hb => by
        have h1 := hedge m _ (Array.getElem?_eq_getElem hmlt) e he hb
        have h2 : e.on < ops.size := by omega
        have h3 : ¬ e.on ∈ todo := fun h => by have := hle _ h; omega
        have h4 : ¬ listed.getD e.on true = false := fun h => h3 ((hl _ h2).1 h)
        have h5 : e.on < listed.size := by omega
        simp only [Array.getD_eq_getD_getElem?, Array.getElem?_eq_getElem h5, Option.getD_some] at h4 ⊢
        simpa using h4⟩
      rw [hr] at this; cases this
  intro n
  induction n with
  | zero =>
    intro todo listed a w hsz hnd hlt hl hn h
    obtain ⟨h0, hq⟩ := h
    refine ⟨?_, hq⟩
    subst h0
    unfold Region.ready
    rw [List.filter_eq_nil_iff]
    intro i hi
    have hi' : i < ops.size := List.mem_range.1 hi
    have : listed.getD i true ≠ false := fun h => by have := (hl i hi').1 h; cases this
    simp only [Bool.and_eq_true, Bool.not_eq_true', not_and]
    intro h; exact absurd h this
  | succ n ih =>
    intro todo listed a w hsz hnd hlt hl hn h
    obtain ⟨hq, hall⟩ := h
    refine ⟨fun hr => hq (hnone todo listed hsz hlt hl hr), fun i hi => ?_⟩
    obtain ⟨h1, o, ho, h2⟩ := mem_ready.1 hi
    have hilt : i < ops.size := (Array.getElem?_eq_some_iff.1 ho).1
    have hit : i ∈ todo := (hl i hilt).1 h1
    have hrd : rdy ops todo i = true := by
      unfold rdy
      rw [ho]
      refine Array.all_eq_true_iff_forall_mem.2 fun e he => ?_
      cases hb : Region.binds .any e with
      | false => simp
      | true =>
        have h3 := h2 e he hb
        have h4 := hedge i o ho e he hb
        have h5 : ¬ e.on ∈ todo := fun h => by
          have := (hl e.on (by omega)).2 h
          have h6 : e.on < listed.size := by omega
          simp only [Array.getD_eq_getD_getElem?, Array.getElem?_eq_getElem h6, Option.getD_some] at this h3
          rw [this] at h3; cases h3
        simpa using h5
    refine wpOpIn_mono (fun a' w' h3 => ih (todo.erase i) (listed.setIfInBounds i true) a' w' (by simpa using hsz) (hnd.erase i) (fun j hj => hlt j (List.mem_of_mem_erase hj)) (fun j hj => ?_) ?_ h3.2) (hall i hit hrd)
    · by_cases hij : i = j
      · subst hij
        have h6 : i < listed.size := by omega
        have : (listed.setIfInBounds i true).getD i true = true := by simp [h6]
        rw [this]
        simp [hnd.mem_erase_iff]
      · rw [getD_set_ne true hij, hl j hj, hnd.mem_erase_iff]
        exact ⟨fun h => ⟨fun e => hij e.symm, h⟩, fun h => h.2⟩
    · have := List.length_erase_of_mem hit
      omega

/-- Wherever I holds this operation yields v. -/
def YQ (P : Program) (ops : Array Oper) (I : World → Prop) (o : Oper) (v : Value) (a : Act) : Prop :=
  (Region.wanted o (yielded ops a.tmps) = true ∧ ∀ w, I w → (execOp a.eval o).run P w = .ok (.value v) w) ∨ (Region.wanted o (yielded ops a.tmps) = false ∧ v = undef)

theorem YQ.of_same {o : Oper} {v : Value} {a a' : Act} (hy : YQ P ops RI o v a) (he : execOp a'.eval o = execOp a.eval o) (hw : Region.wanted o (yielded ops a'.tmps) = Region.wanted o (yielded ops a.tmps)) : YQ P ops RI o v a' := by
  unfold YQ at *
  rw [he, hw]
  exact hy

theorem YQ.now {i : Nat} {o : Oper} {v : Value} {a : Act} {w : World} {K : Act → World → Prop} (hi : ops[i]? = some o) (hnd : ∀ c, o.op ≠ .defer c) (hy : YQ P ops RI o v a) (hI : RI w) (h : K (a.put o.dst v) w) : wpOpIn (Fr r) 0 P ops Q i K a w := by
  unfold wpOpIn
  simp only [hi]
  rcases hy with ⟨hw, hv⟩ | ⟨hw, rfl⟩
  · simp only [hw, if_true]
    exact op_value hnd (hv w hI) h
  · simp only [hw, Bool.false_eq_true, if_false]
    exact ⟨fun _ _ => trivial, h⟩

theorem wpOp_put' {j : Nat} {oi oj : Oper} {v : Value} (hj : ops[j]? = some oj) (hap : oi.apart ops oj = true) (hsi : ∀ cs b, oi.op ≠ .select cs b) (hsj : ∀ cs b, oj.op ≠ .select cs b) (hdj : ∀ c, oj.op ≠ .defer c)
    (hQ : ∀ c a w, Q (.panic c) (a.put oi.dst v) w → Q (.panic c) a w) {K : Act → World → Prop} {a : Act} {w : World} (hy : YQ P ops RI oi v a) (h : wpOpIn (Fr r) 0 P ops Q j K (a.put oi.dst v) w) :
    wpOpIn (Fr r) 0 P ops Q j (fun a' w' => YQ P ops RI oi v a' ∧ K (a'.put oi.dst v) w') a w := by
  obtain ⟨h1, h2, h3⟩ := Oper.apart_spec hap
  have keep : ∀ (a : Act), YQ P ops RI oi v a → ∀ u, YQ P ops RI oi v (a.put oj.dst u) := fun a hy u =>
    hy.of_same (execOp_put oi hsi a oj.dst u h3) (wanted_put oi a oj.dst u h3)
  have keepD : ∀ d, YQ P ops RI oi v { a with defers := d :: a.defers } := fun d => hy.of_same rfl rfl
  have hsem : ∀ e, oj.semAt (Fr r).round e = execOp e oj := fun e => Oper.semAt_eq _ _ _ hdj
  unfold wpOpIn at *
  simp only [hj] at *
  rw [wanted_put oj a oi.dst v h1, about_put oj w a oi.dst v h1] at h
  split
  · rename_i hw
    simp only [hw, if_true] at h
    unfold Oper.wpIn at *
    rw [about_put oj w a oi.dst v h1] at h
    refine ⟨h.1, ?_⟩
    have h := h.2
    rw [hsem, execOp_put oj hsj a oi.dst v h1] at h
    rw [hsem]
    generalize (execOp a.eval oj).run P w = r at *
    cases r with
    | ok x w' =>
      cases x <;> simp only [Oper.uponIn] at h ⊢
      case value u => exact ⟨keep a hy u, by rw [← Act.put_comm a v u h2]; exact h⟩
      case skip => exact ⟨keep a hy _, by rw [← Act.put_comm a v undef h2]; exact h⟩
      case defer d =>
        refine ⟨keep _ (keepD d) _, ?_⟩
        rw [← Act.put_comm _ v undef h2, ← Act.put_defers]
        exact h
      case enter f args =>
        refine ⟨h.1, CallsIn.mono h.2 fun e w'' he => ?_⟩
        cases e with
        | returned u => exact ⟨keep a hy u, by rw [← Act.put_comm a v u h2]; exact he⟩
        | panicked c => exact hQ _ _ _ he
        | outgrown => exact he
      case row row args => exact ⟨h.1, RowsIn.mono h.2 fun u w'' he => ⟨keep a hy u, by rw [← Act.put_comm a v u h2]; exact he⟩⟩
      case round l f tmps assign body =>
        refine ⟨h.1, RoundIn.mono h.2 fun e w'' he => ?_⟩
        cases e with
        | returned u => exact ⟨keep a hy u, by rw [← Act.put_comm a v u h2]; exact he⟩
        | panicked c => exact hQ _ _ _ he
        | outgrown => exact he
    | halt x w' =>
      cases x <;> simp only [Oper.uponIn] at h ⊢
      case panic u => exact hQ _ _ _ h
  · rename_i hw
    simp only [hw] at h
    exact ⟨h.1, keep a hy _, by rw [← Act.put_comm a v undef h2]; exact h.2⟩

theorem wai_first {i : Nat} {Kd : List Nat} (hRI : ∀ t w, I t w → (∀ k ∈ Kd, k ∈ t) → RI w) (hIi : ∀ t w, I (t.erase i) w → I t w) {oi : Oper} {v : Value} (hi : ops[i]? = some oi) (hok : okOps ops.toList = true) (hQ : ∀ c a w, Q (.panic c) (a.put oi.dst v) w → Q (.panic c) a w) :
    ∀ (n : Nat) (todo : List Nat) (a : Act) (w : World), todo.Nodup → i ∈ todo → todo.length ≤ n → rdy ops todo i = true → YQ P ops RI oi v a → I (todo.erase i) w → (∀ k ∈ Kd, k ∈ todo ∧ k ≠ i ∧ ∀ ok, ops[k]? = some ok → ∃ e ∈ ok.after, Region.binds .any e = true ∧ e.on = i) →
      (∀ j ∈ todo, j ≠ i → ∀ oj, ops[j]? = some oj → (oi.apart ops oj = true ∨ ∃ e ∈ oj.after, Region.binds .any e = true ∧ e.on = i)) →
      WAI P r ops Q I (n - 1) (todo.erase i) (a.put oi.dst v) w → WAI P r ops Q I n todo a w := by
  have hkind : ∀ (j : Nat) (o : Oper), ops[j]? = some o → (∀ cs b, o.op ≠ .select cs b) ∧ ∀ c, o.op ≠ .defer c := fun j o ho => by
    have h1 := (Bool.and_eq_true _ _ ▸ hok).2
    have h2 := List.all_eq_true.1 h1 o (by
      have := Array.mem_of_getElem? ho
      simpa using this)
    constructor
    · intro cs b e; rw [e] at h2; cases h2
    · intro c e; rw [e] at h2; cases h2
  intro n
  induction n with
  | zero =>
    intro todo a w _ hmem hlen
    cases todo with
    | nil => cases hmem
    | cons x l => simp at hlen
  | succ n ih =>
    intro todo a w hnd hmem hlen hr hy hI hK hap H
    have hRw : RI w := hRI _ _ hI fun k hk => (List.mem_erase_of_ne (hK k hk).2.1).2 (hK k hk).1
    refine ⟨fun h0 => (by rw [h0] at hmem; cases hmem), fun j hj hjr => ?_⟩
    by_cases hji : j = i
    · subst hji
      exact hy.now hi (hkind j oi hi).2 hRw ⟨hI, by simpa using H⟩
    · -- j comes first
      have hjo : ∃ oj, ops[j]? = some oj := by
        unfold rdy at hjr
        split at hjr
        · exact ⟨_, by assumption⟩
        · cases hjr
      obtain ⟨oj, hoj⟩ := hjo
      have hnot : ¬ ∃ e ∈ oj.after, Region.binds .any e = true ∧ e.on = i := by
        rintro ⟨e, he, hb, hon⟩
        unfold rdy at hjr
        rw [hoj] at hjr
        have := (Array.all_eq_true_iff_forall_mem.1 hjr) e he
        rw [hb, hon] at this
        simp [hmem] at this
      have hapj := (hap j hj hji oj hoj).resolve_right hnot
      have hje : j ∈ todo.erase i := (List.mem_erase_of_ne hji).2 hj
      have hrj : rdy ops (todo.erase i) j = true := by
        unfold rdy at hjr ⊢
        rw [hoj] at hjr ⊢
        refine Array.all_eq_true_iff_forall_mem.2 fun e he => ?_
        have := (Array.all_eq_true_iff_forall_mem.1 hjr) e he
        cases hb : Region.binds .any e with
        | false => simp
        | true =>
          rw [hb] at this
          have h7 : ¬ e.on ∈ todo := by simpa using this
          have h8 : ¬ e.on ∈ todo.erase i := fun h => h7 (List.mem_of_mem_erase h)
          simpa using h8
      have hn1 : ∃ m, n = m + 1 := by
        have := List.length_erase_of_mem hmem
        have h9 : 0 < (todo.erase i).length := List.length_pos_of_mem hje
        exact ⟨n - 1, by omega⟩
      obtain ⟨m, rfl⟩ := hn1
      have h1 := H.2 j hje hrj
      have h2 := wpOp_put' hoj hapj (hkind i oi hi).1 (hkind j oj hoj).1 (hkind j oj hoj).2 hQ hy h1
      have hie : i ∈ todo.erase j := (List.mem_erase_of_ne (Ne.symm hji)).2 hmem
      have hri : rdy ops (todo.erase j) i = true := by
        unfold rdy at hr ⊢
        rw [hi] at hr ⊢
        refine Array.all_eq_true_iff_forall_mem.2 fun e he => ?_
        have := (Array.all_eq_true_iff_forall_mem.1 hr) e he
        cases hb : Region.binds .any e with
        | false => simp
        | true =>
          rw [hb] at this
          have h7 : ¬ e.on ∈ todo := by simpa using this
          have h8 : ¬ e.on ∈ todo.erase j := fun h => h7 (List.mem_of_mem_erase h)
          simpa using h8
      refine wpOpIn_mono (fun a' w' h3 => ⟨hIi _ _ (by rw [List.erase_comm]; exact h3.2.1), ih (todo.erase j) a' w' (hnd.erase j) hie (by have := List.length_erase_of_mem hj; omega) hri h3.1 (by rw [List.erase_comm]; exact h3.2.1) (fun k hk => ⟨(List.mem_erase_of_ne fun e => hnot (by subst e; exact (hK k hk).2.2 oj hoj)).2 (hK k hk).1, (hK k hk).2⟩) (fun k hk hki ok hok' => hap k (List.mem_of_mem_erase hk) hki ok hok') ?_⟩) h2
      rw [List.erase_comm]
      exact h3.2.2
end

def Nodup' : List Nat → Bool
  | [] => true
  | x :: l => !(l.contains x) && Nodup' l
theorem nodup_of : ∀ {l : List Nat}, Nodup' l = true → l.Nodup
  | [], _ => List.nodup_nil
  | x :: l, h => by
    have h' := Bool.and_eq_true _ _ ▸ h
    exact List.nodup_cons.2 ⟨by simpa using h'.1, nodup_of h'.2⟩

/-! ### The same over symbolic states -/
/-- Blocks that hold what they hold till an operation (if any) has been done. -/
def pick (L : List (Option Nat × Own)) (t : List Nat) : List Own := L.filterMap fun p => match p.1 with
  | none => some p.2
  | some k => bif t.contains k then some p.2 else none
def It (c : Ctx) (L : List (Option Nat × Own)) (Φ : List Res) (Ψ : List JR) (t : List Nat) (w : World) : Prop := MI c (pick L t) Φ Ψ w

def RA (c : Ctx) (I : List Nat → World → Prop) (ρ : List (Nat × Value)) (B : List Own) (Φ : List Res) (Ψ : List JR) (ops : Array Oper) (todo : List Nat) (Q : Post) : Prop :=
  ∀ a w, St c ρ B Φ Ψ a w → WAI c.P c.r ops Q I todo.length todo a w

/-- What is asked behind an operation that came next. -/
def NX (c : Ctx) (I : List Nat → World → Prop) (ops : Array Oper) (todo : List Nat) (Q : Post) : Post
  | .normal, a, w => I todo w ∧ WAI c.P c.r ops Q I todo.length todo a w
  | e, a, w => Q e a w

/-- A post that no panic meets. -/
def NP (Q : Post) : Post
  | .panic _, _, _ => False
  | e, a, w => Q e a w
theorem NP.imp {Q : Post} : ∀ e a w, NP Q e a w → Q e a w := fun e a w h => by
  cases e <;> first | exact h | exact h.elim

theorem mi_sub {c : Ctx} {B B0 : List Own} {Φ Φ0 : List Res} {Ψ : List JR} (hB : B0.Sublist B) (hΦ : ∀ φ ∈ Φ0, φ ∈ Φ) {w : World} (h : MI c B Φ Ψ w) : MI c B0 Φ0 Ψ w := by
  obtain ⟨V, U, M, m⟩ := h
  have hbl : ∀ b, blks B0 b → blks B b := fun b ⟨o, ho, e⟩ => ⟨o, hB.subset ho, e⟩
  exact ⟨V, U, M, ⟨m.vx, m.vm, fun b h => m.vb b (hbl b h), m.vlt, fun b h => m.ub b (hbl b h), m.ult, ⟨fun o ho => m.sep.holds o (hB.subset ho), m.sep.apart.sublist hB⟩, fun b h => m.own b (hbl b h), fun φ hφ => m.phi φ (hΦ φ hφ), m.psi, m.g, m.sz, m.frame, m.xlt, m.mo, m.io⟩⟩

theorem pick_sub {N L : List (Option Nat × Own)} (h : N.Sublist L) (t : List Nat) : (pick N t).Sublist (pick L t) := h.filterMap _
theorem pick_all : ∀ {N : List (Option Nat × Own)} {t : List Nat}, (∀ k ∈ N.filterMap (·.1), k ∈ t) → pick N t = N.map (·.2)
  | [], _, _ => rfl
  | (none, o) :: r, t, h => by
    have ih := pick_all (N := r) (t := t) (fun k hk => h k (by simpa using hk))
    unfold pick at ih ⊢
    simp only [List.filterMap_cons, List.map_cons, ih]
  | (some k, o) :: r, t, h => by
    have ih := pick_all (N := r) (t := t) (fun k hk => h k (by simp only [List.filterMap_cons]; exact List.mem_cons_of_mem _ hk))
    have hk : t.contains k = true := by simpa using h k (by simp)
    unfold pick at ih ⊢
    simp only [List.filterMap_cons, List.map_cons, ih, hk, cond_true]
theorem pick_erase {i : Nat} : ∀ {L : List (Option Nat × Own)} {t : List Nat}, (L.all fun p => match p.1 with | none => true | some k => !(Nat.beq k i)) = true → pick L (t.erase i) = pick L t
  | [], _, _ => rfl
  | (none, o) :: r, t, h => by
    have h' := (Bool.and_eq_true _ _ ▸ (List.all_cons ▸ h : (_ && r.all _) = true))
    have ih := pick_erase (L := r) (t := t) h'.2
    unfold pick at ih ⊢
    simp only [List.filterMap_cons, ih]
  | (some k, o) :: r, t, h => by
    have h' := (Bool.and_eq_true _ _ ▸ (List.all_cons ▸ h : (_ && r.all _) = true))
    have ih := pick_erase (L := r) (t := t) h'.2
    have hne : ¬ k = i := ne_of_beq (by simpa using h'.1)
    have e : (t.erase i).contains k = t.contains k := by
      have := List.mem_erase_of_ne (l := t) hne
      cases h1 : t.contains k <;> cases h2 : (t.erase i).contains k <;> simp_all
    unfold pick at ih ⊢
    simp only [List.filterMap_cons, ih, e]

def edgeTo (ops : Array Oper) (k i : Nat) : Bool := match ops[k]? with
  | some o => o.after.toList.any fun e => Region.binds .any e && Nat.beq e.on i
  | none => false

section
variable {c : Ctx} {ρ ρ0 : List (Nat × Value)} {B B0 : List Own} {Φ Φ0 : List Res} {Ψ : List JR} {ops : Array Oper} {todo todo' : List Nat} {Q : Post} {I : List Nat → World → Prop} {L : List (Option Nat × Own)}

theorem sw_draw {id : Nat} {l : List Oper} (L : List (Option Nat × Own)) (Φ0 : List Res) (todo : List Nat) (hm : c.P.follows .mixedOrders = true) (hok : okOps l = true) (htodo : List.range l.length = todo) (h : RA c (It c L Φ0 Ψ) ρ B Φ Ψ l.toArray todo (NP Q)) : SW c ρ B Φ Ψ (.region id l.toArray true) Q := fun a w hs => by
  refine wpIn_mono (wpIn_region_any hm (wai_sound (Q := NP Q) (I := It c L Φ0 Ψ) (by simpa using hok) _ todo _ _ _ (by simp) (by rw [← htodo]; exact List.nodup_range) (fun i hi => by rw [← htodo] at hi; simpa using hi) (fun i hi => ?_) (by rw [← htodo]; simp) ?_)) (fun e a w h => NP.imp e a w h)
  · have : (Array.replicate l.toArray.size false).getD i true = false := by
      have h' : i < l.length := by simpa using hi
      simp [Array.getD_eq_getD_getElem?, h']
    rw [this, ← htodo]
    simpa using hi
  · have hlen : l.toArray.size = todo.length := by rw [← htodo]; simp
    rw [hlen]
    obtain ⟨V, U, M, m⟩ := hs.mem
    have kd : ∀ V : Av, Kept V V w w.drew := fun V => ⟨Nat.le_refl _, fun _ _ _ => rfl, fun _ _ h => h⟩
    exact h a w.drew ⟨hs.nt, hs.reg, hs.dfr, V, U, M, ⟨m.vx, m.vm, m.vb, m.vlt, m.ub, m.ult, m.sep.keep fun _ _ => rfl, m.own, fun φ hφ => φ.st (kd V) (m.phi φ hφ), fun ψ hψ => ψ.st (kd U) (m.psi ψ hψ), c.G.st (kd V) m.g, m.sz, m.frame, m.xlt, m.mo, m.io⟩⟩

theorem ra_done (h : SP c ρ B Φ Ψ .normal Q) : RA c I ρ B Φ Ψ ops [] (NP Q) := fun a w hs => ⟨rfl, h a w hs⟩

/-- The facts that hold all through a region. -/
theorem mi_of (hB : B0.Sublist B) (hΦ : ∀ φ ∈ Φ0, φ ∈ Φ) {a : Act} {w : World} (hs : St c ρ B Φ Ψ a w) : MI c B0 Φ0 Ψ w := mi_sub hB hΦ hs.mem

theorem eval_defers (a : Act) (ds : List Deferred) : ({ a with defers := ds } : Act).eval = a.eval := by
  funext x; cases x <;> rfl

/-- An operation that only reads is taken first. -/
theorem ra_core {i : Nat} {d : Nat} {oi : Oper} {v : Value} {todo' : List Nat} {N : List (Option Nat × Own)} (ho : ops[i]? = some oi) (hd : oi.dst = some d) (hok : okOps ops.toList = true) (hnd : Nodup' todo = true) (hin : todo.contains i = true) (hr : rdy ops todo i = true)
    (hap : (todo.all fun j => Nat.beq j i || match ops[j]? with | some oj => Oper.apart ops oi oj || oj.after.toList.any (fun e => Region.binds .any e && Nat.beq e.on i) | none => true) = true) (hb : Nat.blt d c.nt = true)
    (he : todo.erase i = todo') (hB : (pick L todo').Sublist B) (hΦ : ∀ φ ∈ Φ0, φ ∈ Φ) (hLi : (L.all fun p => match p.1 with | none => true | some k => !(Nat.beq k i)) = true) (hN : N.Sublist L)
    (hK : ((N.filterMap (·.1)).all fun k => todo.contains k && (!(Nat.beq k i) && edgeTo ops k i)) = true)
    (hq : ∀ a w, St c ρ B Φ Ψ a w → YQ c.P ops (MI c (N.map (·.2)) Φ0 Ψ) oi v a) (k : RA c (It c L Φ0 Ψ) ((d, v) :: ρ) B Φ Ψ ops todo' (NP Q)) : RA c (It c L Φ0 Ψ) ρ B Φ Ψ ops todo (NP Q) := fun a w hs => by
  have hmem : i ∈ todo := by simpa using hin
  refine wai_first (RI := MI c (N.map (·.2)) Φ0 Ψ) (Kd := N.filterMap (·.1)) (oi := oi) (v := v) (fun t w h hk => ?_) (fun t w h => ?_) ho hok (fun cc a w h => h.elim) todo.length todo a w (nodup_of hnd) hmem (Nat.le_refl _) hr (hq a w hs) ?_ (fun k hk => ?_) (fun j hj hji oj hoj => ?_) ?_
  · have h1 : (N.map (·.2)).Sublist (pick L t) := by
      rw [← pick_all hk]; exact pick_sub hN t
    exact mi_sub h1 (fun _ h => h) h
  · unfold It at h ⊢
    rwa [pick_erase hLi] at h
  · rw [he]; exact mi_of hB hΦ hs
  · have h1 := List.all_eq_true.1 hK k hk
    simp only [Bool.and_eq_true, Bool.not_eq_true'] at h1
    refine ⟨by simpa using h1.1, ne_of_beq h1.2.1, fun ok hok' => ?_⟩
    have h2 := h1.2.2
    unfold edgeTo at h2
    rw [hok'] at h2
    obtain ⟨e, he, h⟩ := List.any_eq_true.1 h2
    have h3 := (Bool.and_eq_true _ _ ▸ h)
    exact ⟨e, by simpa using he, h3.1, Nat.eq_of_beq_eq_true h3.2⟩
  · have := List.all_eq_true.1 hap j hj
    rw [hoj] at this
    have hji' : Nat.beq j i = false := beq_false hji
    simp only [hji', Bool.false_or, Bool.or_eq_true] at this
    rcases this with h | h
    · exact .inl h
    · obtain ⟨e, he, h⟩ := List.any_eq_true.1 h
      have h2 := (Bool.and_eq_true _ _ ▸ h)
      exact .inr ⟨e, by simpa using he, h2.1, Nat.eq_of_beq_eq_true h2.2⟩
  · have hl : (todo.erase i).length = todo.length - 1 := List.length_erase_of_mem hmem
    have h := k _ w (hs.put hb v)
    rw [hd]
    rw [← hl, he]
    exact h

theorem qt_run {o : Op} {ty : TypeId} {v : Value} {N : List Own} (hq : Qt c ρ N Φ0 Ψ o ty v) {a : Act} {w w' : World} (hs : St c ρ B Φ Ψ a w) (hm : MI c N Φ0 Ψ w') (d : Option Tmp) (ps : String) (af : Array Edge) (g : Option (Nat × Bool)) : (execOp a.eval ⟨d, o, ty, ps, af, g⟩).run c.P w' = .ok (.value v) w' := by
  have := hq { a with defers := dfs c N } w' ⟨hs.nt, hs.reg, rfl, hm⟩ d ps af g
  rwa [eval_defers] at this

theorem ra_first (i : Nat) (N : List (Option Nat × Own)) (todo' : List Nat) {d : Nat} {o : Op} {ty : TypeId} {ps : String} {af : Array Edge} {v : Value} (ho : ops[i]? = some ⟨some d, o, ty, ps, af, none⟩ := by exact rfl) (hq : Qt c ρ (N.map (·.2)) Φ0 Ψ o ty v) (hok : okOps ops.toList = true := by kernel_rfl) (hnd : Nodup' todo = true := by exact rfl) (hin : todo.contains i = true := by exact rfl) (hr : rdy ops todo i = true := by kernel_rfl)
    (hap : (todo.all fun j => Nat.beq j i || match ops[j]? with | some oj => Oper.apart ops ⟨some d, o, ty, ps, af, none⟩ oj || oj.after.toList.any (fun e => Region.binds .any e && Nat.beq e.on i) | none => true) = true := by kernel_rfl) (hb : Nat.blt d c.nt = true := by exact rfl)
    (he : todo.erase i = todo' := by exact rfl) (hB : (pick L todo').Sublist B := by first | exact List.nil_sublist _ | exact List.Sublist.refl _ | (repeat (first | exact List.Sublist.refl _ | exact List.nil_sublist _ | apply List.Sublist.cons_cons | apply List.Sublist.cons))) (hΦ : ∀ φ ∈ Φ0, φ ∈ Φ := by simp) (hLi : (L.all fun p => match p.1 with | none => true | some k => !(Nat.beq k i)) = true := by exact rfl) (hN : N.Sublist L := by first | exact List.nil_sublist _ | exact List.Sublist.refl _ | (repeat (first | exact List.Sublist.refl _ | exact List.nil_sublist _ | apply List.Sublist.cons_cons | apply List.Sublist.cons)))
    (hK : ((N.filterMap (·.1)).all fun k => todo.contains k && (!(Nat.beq k i) && edgeTo ops k i)) = true := by exact rfl) (k : RA c (It c L Φ0 Ψ) ((d, v) :: ρ) B Φ Ψ ops todo' (NP Q)) : RA c (It c L Φ0 Ψ) ρ B Φ Ψ ops todo (NP Q) :=
  ra_core ho rfl hok hnd hin hr hap hb he hB hΦ hLi hN hK (fun a w hs => .inl ⟨by simp [Region.wanted], fun w' hm => qt_run hq hs hm _ _ _ _⟩) k
/-- A guarded operation that is wanted. -/
theorem ra_firstg (i : Nat) (N : List (Option Nat × Own)) (todo' : List Nat) {d j g : Nat} {og : Oper} {want : Bool} {o : Op} {ty : TypeId} {ps : String} {af : Array Edge} {v : Value} (ho : ops[i]? = some ⟨some d, o, ty, ps, af, some (j, want)⟩ := by exact rfl) (hog : ops[j]? = some og := by exact rfl) (hdg : og.dst = some g := by exact rfl) (hx : lk ρ g = some (.bool want) := by exact rfl) (hbg : Nat.blt g c.nt = true := by exact rfl)
    (hq : Qt c ρ (N.map (·.2)) Φ0 Ψ o ty v) (hok : okOps ops.toList = true := by kernel_rfl) (hnd : Nodup' todo = true := by exact rfl) (hin : todo.contains i = true := by exact rfl) (hr : rdy ops todo i = true := by kernel_rfl)
    (hap : (todo.all fun j' => Nat.beq j' i || match ops[j']? with | some oj => Oper.apart ops ⟨some d, o, ty, ps, af, some (j, want)⟩ oj || oj.after.toList.any (fun e => Region.binds .any e && Nat.beq e.on i) | none => true) = true := by kernel_rfl) (hb : Nat.blt d c.nt = true := by exact rfl)
    (he : todo.erase i = todo' := by exact rfl) (hB : (pick L todo').Sublist B := by first | exact List.nil_sublist _ | exact List.Sublist.refl _ | (repeat (first | exact List.Sublist.refl _ | exact List.nil_sublist _ | apply List.Sublist.cons_cons | apply List.Sublist.cons))) (hΦ : ∀ φ ∈ Φ0, φ ∈ Φ := by simp) (hLi : (L.all fun p => match p.1 with | none => true | some k => !(Nat.beq k i)) = true := by exact rfl) (hN : N.Sublist L := by first | exact List.nil_sublist _ | exact List.Sublist.refl _ | (repeat (first | exact List.Sublist.refl _ | exact List.nil_sublist _ | apply List.Sublist.cons_cons | apply List.Sublist.cons)))
    (hK : ((N.filterMap (·.1)).all fun k => todo.contains k && (!(Nat.beq k i) && edgeTo ops k i)) = true := by exact rfl) (k : RA c (It c L Φ0 Ψ) ((d, v) :: ρ) B Φ Ψ ops todo' (NP Q)) : RA c (It c L Φ0 Ψ) ρ B Φ Ψ ops todo (NP Q) :=
  ra_core ho rfl hok hnd hin hr hap hb he hB hΦ hLi hN hK (fun a w hs => .inl ⟨by
    have := yielded_of hs hog hdg hx hbg
    simp [Region.wanted, this], fun w' hm => qt_run hq hs hm _ _ _ _⟩) k
/-- A guarded operation that is not wanted. -/
theorem ra_skip (i : Nat) (todo' : List Nat) {d j g : Nat} {og : Oper} {want have' : Bool} {o : Op} {ty : TypeId} {ps : String} {af : Array Edge} (ho : ops[i]? = some ⟨some d, o, ty, ps, af, some (j, want)⟩ := by exact rfl) (hog : ops[j]? = some og := by exact rfl) (hdg : og.dst = some g := by exact rfl) (hx : lk ρ g = some (.bool have') := by exact rfl) (hbg : Nat.blt g c.nt = true := by exact rfl) (hne : (have' == want) = false := by exact rfl)
    (hok : okOps ops.toList = true := by kernel_rfl) (hnd : Nodup' todo = true := by exact rfl) (hin : todo.contains i = true := by exact rfl) (hr : rdy ops todo i = true := by kernel_rfl)
    (hap : (todo.all fun j' => Nat.beq j' i || match ops[j']? with | some oj => Oper.apart ops ⟨some d, o, ty, ps, af, some (j, want)⟩ oj || oj.after.toList.any (fun e => Region.binds .any e && Nat.beq e.on i) | none => true) = true := by kernel_rfl) (hb : Nat.blt d c.nt = true := by exact rfl)
    (he : todo.erase i = todo' := by exact rfl) (hB : (pick L todo').Sublist B := by first | exact List.nil_sublist _ | exact List.Sublist.refl _ | (repeat (first | exact List.Sublist.refl _ | exact List.nil_sublist _ | apply List.Sublist.cons_cons | apply List.Sublist.cons))) (hΦ : ∀ φ ∈ Φ0, φ ∈ Φ := by simp) (hLi : (L.all fun p => match p.1 with | none => true | some k => !(Nat.beq k i)) = true := by exact rfl) (k : RA c (It c L Φ0 Ψ) ((d, undef) :: ρ) B Φ Ψ ops todo' (NP Q)) : RA c (It c L Φ0 Ψ) ρ B Φ Ψ ops todo (NP Q) :=
  ra_core (N := []) ho rfl hok hnd hin hr hap hb he hB hΦ hLi (List.nil_sublist _) rfl (fun a w hs => .inr ⟨by
    have := yielded_of hs hog hdg hx hbg
    have hw : (some have' == some want) = false := by simpa using hne
    simp [Region.wanted, this, hw], rfl⟩) k

/-- Behind an operation that came next. -/
theorem sp_nx (hB : (pick L todo).Sublist B := by first | exact List.nil_sublist _ | exact List.Sublist.refl _ | (repeat (first | exact List.Sublist.refl _ | exact List.nil_sublist _ | apply List.Sublist.cons_cons | apply List.Sublist.cons))) (hΦ : ∀ φ ∈ Φ0, φ ∈ Φ := by simp) (k : RA c (It c L Φ0 Ψ) ρ B Φ Ψ ops todo Q) : SP c ρ B Φ Ψ .normal (NX c (It c L Φ0 Ψ) ops todo Q) := fun a w hs => ⟨mi_of hB hΦ hs, k a w hs⟩

theorem nx_mono {i : Nat} {n : Nat} (hn : n = (todo.erase i).length) {a : Act} {w : World} (h : wpListIn (Fr c.r) 0 c.P ops (NX c I ops (todo.erase i) Q) [ops[i]?.getD default] a w) (hi : ∃ o, ops[i]? = some o) :
    wpOpIn (Fr c.r) 0 c.P ops Q i (fun a' w' => I (todo.erase i) w' ∧ WAI c.P c.r ops Q I n (todo.erase i) a' w') a w := by
  obtain ⟨o, ho⟩ := hi
  rw [ho] at h
  subst hn
  unfold wpOpIn
  simp only [ho]
  simp only [Option.getD_some, wpListIn] at h
  split
  · rename_i hw
    simp only [hw, if_true] at h
    refine ⟨h.1, ?_⟩
    have h2 := h.2
    generalize (o.semAt (Fr c.r).round a.eval).run c.P w = r at *
    cases r with
    | ok x w' =>
      cases x <;> simp only [Oper.uponIn] at h2 ⊢ <;> first
        | exact h2
        | (refine ⟨h2.1, CallsIn.mono h2.2 fun e w'' he => ?_⟩; cases e <;> first | exact he | (obtain ⟨a, w, hl⟩ := he; exact ⟨a, w, hl⟩))
        | (refine ⟨h2.1, RoundIn.mono h2.2 fun e w'' he => ?_⟩; cases e <;> first | exact he | (obtain ⟨a, w, hl⟩ := he; exact ⟨a, w, hl⟩))
        | (refine ⟨h2.1, RowsIn.mono h2.2 fun e w'' he => he⟩)
    | halt x w' => cases x <;> simp only [Oper.uponIn] at h2 ⊢ <;> exact h2
  · rename_i hw
    simp only [hw, Bool.false_eq_true, if_false] at h
    exact h

/-- Every operation that may come next, each by itself. -/
theorem ra_split (is : List Nat) (hne : todo.isEmpty = false) (hr : (todo.filter fun i => rdy ops todo i) = is) (h : ∀ i ∈ is, SL c ρ B Φ Ψ ops [ops[i]?.getD default] (NX c I ops (todo.erase i) Q)) : RA c I ρ B Φ Ψ ops todo Q := fun a w hs => by
  have hlen : ∃ n, todo.length = n + 1 := by
    cases todo with
    | nil => cases hne
    | cons x l => exact ⟨l.length, rfl⟩
  obtain ⟨n, hn⟩ := hlen
  rw [hn]
  refine ⟨fun h0 => (by rw [h0] at hne; cases hne), fun i hi hrd => ?_⟩
  have hin : i ∈ is := by rw [← hr]; exact List.mem_filter.2 ⟨hi, hrd⟩
  have ho : ∃ o, ops[i]? = some o := by
    unfold rdy at hrd
    split at hrd
    · exact ⟨_, by assumption⟩
    · cases hrd
  exact nx_mono (by have := List.length_erase_of_mem hi; omega) (h i hin a w hs) ho
theorem ra1 {i : Nat} (todo' : List Nat) {d : Option Tmp} {o : Op} {ty : TypeId} {ps : String} {af : Array Edge} {g : Option (Nat × Bool)} (hr : (todo.filter fun i => rdy ops todo i) = [i] := by kernel_rfl) (ho : ops[i]? = some ⟨d, o, ty, ps, af, g⟩ := by exact rfl) (he : todo.erase i = todo' := by rfl) (h : SL c ρ B Φ Ψ ops [⟨d, o, ty, ps, af, g⟩] (NX c I ops todo' Q)) : RA c I ρ B Φ Ψ ops todo Q :=
  ra_split [i] (by cases todo with
    | nil => cases hr
    | cons x l => rfl) hr fun j hj => by
    cases hj with
    | head => rw [ho, he]; exact h
    | tail _ h => cases h
theorem ra2 {i j : Nat} (t1 t2 : List Nat) {d d1 : Option Tmp} {o o1 : Op} {ty ty1 : TypeId} {ps ps1 : String} {af af1 : Array Edge} {g g1 : Option (Nat × Bool)} (hr : (todo.filter fun i => rdy ops todo i) = [i, j]) (ho : ops[i]? = some ⟨d, o, ty, ps, af, g⟩) (he : todo.erase i = t1) (hp : ops[j]? = some ⟨d1, o1, ty1, ps1, af1, g1⟩) (hf : todo.erase j = t2)
    (h : SL c ρ B Φ Ψ ops [⟨d, o, ty, ps, af, g⟩] (NX c I ops t1 Q)) (k : SL c ρ B Φ Ψ ops [⟨d1, o1, ty1, ps1, af1, g1⟩] (NX c I ops t2 Q)) : RA c I ρ B Φ Ψ ops todo Q :=
  ra_split [i, j] (by cases todo with
    | nil => cases hr
    | cons x l => rfl) hr fun q hq => by
    cases hq with
    | head => rw [ho, he]; exact h
    | tail _ hq => cases hq with
      | head => rw [hp, hf]; exact k
      | tail _ h => cases h

/-- A region's state told anew: what is live. -/
theorem ra_set {ρ' : List (Nat × Value)} (h : ∀ p ∈ ρ', lk ρ p.1 = some p.2) (k : RA c I ρ' B Φ Ψ ops todo Q) : RA c I ρ B Φ Ψ ops todo Q := fun a w hs => k a w ⟨hs.nt, fun t v ht => hs.reg t v (lk_of_all h t v ht), hs.dfr, hs.mem⟩
end
end Go.Proofs.YtjahiohlekdhoaaDoor

namespace Go.Proofs.YtjahiohlekdhoaaDoor
open Go

abbrev v8 (x : UInt8) : Value := .int .u8 (x.toNat : Int)
abbrev v16 (x : UInt16) : Value := .int .u16 (x.toNat : Int)
abbrev v32 (x : UInt32) : Value := .int .u32 (x.toNat : Int)
abbrev v64 (x : UInt64) : Value := .int .u64 (x.toNat : Int)
abbrev vi (n : Int) : Value := .int .i64 n
abbrev vb (b : Bool) : Value := .bool b

theorem lt8 (x : UInt8) : x.toNat < 256 := x.toNat_lt
theorem lt16 (x : UInt16) : x.toNat < 65536 := x.toNat_lt
theorem lt32 (x : UInt32) : x.toNat < 4294967296 := x.toNat_lt
theorem lt64 (x : UInt64) : x.toNat < 18446744073709551616 := x.toNat_lt

theorem bv64 (a : UInt64) : BitVec.ofInt 64 (a.toNat : Int) = a.toBitVec := by
  apply BitVec.eq_of_toNat_eq; simp
theorem bv8 (a : UInt8) : BitVec.ofInt 8 (a.toNat : Int) = a.toBitVec := by
  apply BitVec.eq_of_toNat_eq; simp
theorem wr64 (a : UInt64) : IntKind.u64.wrap (a.toNat : Int) = (a.toNat : Int) := by rw [IntKind.wrap_u64]; have := lt64 a; omega
theorem wr8 (a : UInt8) : IntKind.u8.wrap (a.toNat : Int) = (a.toNat : Int) := by rw [IntKind.wrap_u8']; have := lt8 a; omega

section
variable {c : Ctx} {ρ : List (Nat × Value)} {B B' B0 Br : List Own} {Φ Φ' : List Res} {Ψ : List JR} {ops : Array Oper} {rest : List Oper} {Q : Post} {d ty t : Nat} {ps : String} {af : Array Edge} {x y z : Operand} {v u : Value} {xt yt : TypeId} {m n : Int} {kk : IntKind}

theorem r_xor64 {a b : UInt64} (hx : ev ρ x = some (v64 a) := by exact rfl) (hy : ev ρ y = some (v64 b) := by exact rfl) (hb : Nat.blt d c.nt = true := by exact rfl) (k : SL c ((d, v64 (a ^^^ b)) :: ρ) B Φ Ψ ops rest Q) : SL c ρ B Φ Ψ ops (⟨some d, .binOp .xor xt x y yt, ty, ps, af, none⟩ :: rest) Q :=
  r_bin hx hy hb (fun w => by
    have e := wr64 (a ^^^ b)
    simp [eqGuard, binOp, Op.intBits, IntKind.bits] at e ⊢
    exact e) k
theorem r_and64 {a b : UInt64} (hx : ev ρ x = some (v64 a) := by exact rfl) (hy : ev ρ y = some (v64 b) := by exact rfl) (hb : Nat.blt d c.nt = true := by exact rfl) (k : SL c ((d, v64 (a &&& b)) :: ρ) B Φ Ψ ops rest Q) : SL c ρ B Φ Ψ ops (⟨some d, .binOp .and xt x y yt, ty, ps, af, none⟩ :: rest) Q :=
  r_bin hx hy hb (fun w => by
    have e := wr64 (a &&& b)
    simp [eqGuard, binOp, Op.intBits, IntKind.bits] at e ⊢
    exact e) k
theorem r_or64 {a b : UInt64} (hx : ev ρ x = some (v64 a) := by exact rfl) (hy : ev ρ y = some (v64 b) := by exact rfl) (hb : Nat.blt d c.nt = true := by exact rfl) (k : SL c ((d, v64 (a ||| b)) :: ρ) B Φ Ψ ops rest Q) : SL c ρ B Φ Ψ ops (⟨some d, .binOp .or xt x y yt, ty, ps, af, none⟩ :: rest) Q :=
  r_bin hx hy hb (fun w => by
    have e := wr64 (a ||| b)
    simp [eqGuard, binOp, Op.intBits, IntKind.bits] at e ⊢
    exact e) k
theorem r_xor8 {a b : UInt8} (hx : ev ρ x = some (v8 a) := by exact rfl) (hy : ev ρ y = some (v8 b) := by exact rfl) (hb : Nat.blt d c.nt = true := by exact rfl) (k : SL c ((d, v8 (a ^^^ b)) :: ρ) B Φ Ψ ops rest Q) : SL c ρ B Φ Ψ ops (⟨some d, .binOp .xor xt x y yt, ty, ps, af, none⟩ :: rest) Q :=
  r_bin hx hy hb (fun w => by
    have e := wr8 (a ^^^ b)
    simp [eqGuard, binOp, Op.intBits, IntKind.bits] at e ⊢
    exact e) k
theorem r_and8 {a b : UInt8} (hx : ev ρ x = some (v8 a) := by exact rfl) (hy : ev ρ y = some (v8 b) := by exact rfl) (hb : Nat.blt d c.nt = true := by exact rfl) (k : SL c ((d, v8 (a &&& b)) :: ρ) B Φ Ψ ops rest Q) : SL c ρ B Φ Ψ ops (⟨some d, .binOp .and xt x y yt, ty, ps, af, none⟩ :: rest) Q :=
  r_bin hx hy hb (fun w => by
    have e := wr8 (a &&& b)
    simp [eqGuard, binOp, Op.intBits, IntKind.bits] at e ⊢
    exact e) k
theorem r_mul64 {a b : UInt64} (hx : ev ρ x = some (v64 a) := by exact rfl) (hy : ev ρ y = some (v64 b) := by exact rfl) (hb : Nat.blt d c.nt = true := by exact rfl) (k : SL c ((d, v64 (a * b)) :: ρ) B Φ Ψ ops rest Q) : SL c ρ B Φ Ψ ops (⟨some d, .binOp .mul xt x y yt, ty, ps, af, none⟩ :: rest) Q :=
  r_mul hx hy hb (by
    have e : IntKind.u64.wrap ((a.toNat : Int) * (b.toNat : Int)) = ((a * b).toNat : Int) := by
      rw [IntKind.wrap_u64, UInt64.toNat_mul]; omega
    rw [e]; exact k)
theorem fdiv_nat (m k : Nat) : ((m : Int).fdiv ((k : Nat) : Int)) = ((m / k : Nat) : Int) := by
  rw [Int.fdiv_eq_ediv_of_nonneg _ (by omega)]; simp
/-- 'x >> n', 'x << n' by a literal below 64. -/
theorem r_shr64 {a : UInt64} {k' : IntKind} {n : Nat} (hx : ev ρ x = some (v64 a) := by exact rfl) (hy : ev ρ y = some (.int k' (n : Int)) := by exact rfl) (hn : Nat.blt n 64 = true := by exact rfl) (hb : Nat.blt d c.nt = true := by exact rfl) (k : SL c ((d, v64 (a >>> UInt64.ofNat n)) :: ρ) B Φ Ψ ops rest Q) : SL c ρ B Φ Ψ ops (⟨some d, .binOp .shr xt x y yt, ty, ps, af, none⟩ :: rest) Q :=
  r_bin hx hy hb (fun w => by
    have hn' : n < 64 := by simpa using hn
    have e : ((a >>> UInt64.ofNat n).toNat : Int) = (a.toNat : Int).fdiv (2 ^ n) := by
      have : ((2 : Int) ^ n) = ((2 ^ n : Nat) : Int) := by simp
      rw [this, fdiv_nat, UInt64.toNat_shiftRight, Nat.shiftRight_eq_div_pow]
      simp
      congr 2; omega
    have h0 : ¬ ((n : Int) < 0) := by omega
    have h1 : min n 64 = n := by omega
    simp [eqGuard, binOp, Op.shift, IntKind.bits, h1, -UInt64.toNat_shiftRight, -UInt64.toNat_shiftLeft]
    rw [if_neg h0, ← e]) k
theorem r_shl64 {a : UInt64} {k' : IntKind} {n : Nat} (hx : ev ρ x = some (v64 a) := by exact rfl) (hy : ev ρ y = some (.int k' (n : Int)) := by exact rfl) (hn : Nat.blt n 64 = true := by exact rfl) (hb : Nat.blt d c.nt = true := by exact rfl) (k : SL c ((d, v64 (a <<< UInt64.ofNat n)) :: ρ) B Φ Ψ ops rest Q) : SL c ρ B Φ Ψ ops (⟨some d, .binOp .shl xt x y yt, ty, ps, af, none⟩ :: rest) Q :=
  r_bin hx hy hb (fun w => by
    have hn' : n < 64 := by simpa using hn
    have e : ((a <<< UInt64.ofNat n).toNat : Int) = IntKind.u64.wrap ((a.toNat : Int) * 2 ^ n) := by
      rw [IntKind.wrap_u64, UInt64.toNat_shiftLeft, Nat.shiftLeft_eq]
      have h : (UInt64.ofNat n).toNat % 64 = n := by simp; omega
      rw [h]; simp
    have h0 : ¬ ((n : Int) < 0) := by omega
    have h1 : min n 64 = n := by omega
    simp [eqGuard, binOp, Op.shift, IntKind.bits, h1, -UInt64.toNat_shiftRight, -UInt64.toNat_shiftLeft]
    rw [if_neg h0, ← e]) k
theorem r_not64 {a : UInt64} (hx : ev ρ x = some (v64 a) := by exact rfl) (hb : Nat.blt d c.nt = true := by exact rfl) (k : SL c ((d, v64 (~~~a)) :: ρ) B Φ Ψ ops rest Q) : SL c ρ B Φ Ψ ops (⟨some d, .unOp .xor xt x, ty, ps, af, none⟩ :: rest) Q :=
  r_val rfl (fun _ => by simp) rfl hb (fun a' w hs => by
    have e : IntKind.u64.wrap ((BitVec.ofInt 64 18446744073709551615 ^^^ a.toBitVec).toNat : Int) = ((~~~a).toNat : Int) := by
      have : (BitVec.ofInt 64 18446744073709551615 ^^^ a.toBitVec) = (~~~a).toBitVec := by
        have : BitVec.ofInt 64 18446744073709551615 = BitVec.allOnes 64 := by decide
        rw [this, BitVec.allOnes_xor]; rfl
      rw [this]; exact wr64 (~~~a)
    simp only [v64, ← e]
    simp only [execOp, hs.ev hx, Op.unary, Op.intBits]
    rw [show BitVec.ofInt IntKind.u64.bits (a.toNat : Int) = a.toBitVec from bv64 a]
    rfl) k

/-! ### Conversions -/
theorem r_cv {st dt : TypeId} {k' : IntKind} {r : Int} (ht : tInt c.P dt = some kk) (hs' : tInt c.P st = some k') (hx : ev ρ x = some (.int k' m)) (he : kk.wrap m = r) (hb : Nat.blt d c.nt = true) (k : SL c ((d, .int kk r) :: ρ) B Φ Ψ ops rest Q) :
    SL c ρ B Φ Ψ ops (⟨some d, .convert st dt x, ty, ps, af, none⟩ :: rest) Q :=
  r_conv ht (fun w => by
    unfold tInt at hs'
    split at hs'
    · rename_i h; exact ⟨_, run_underlying h w⟩
    · cases hs') hx hb (he ▸ k)
theorem cv_8_64 (a : UInt8) : IntKind.u64.wrap (a.toNat : Int) = (a.toUInt64.toNat : Int) := by rw [IntKind.wrap_u64]; have := lt8 a; simp; omega
theorem cv_16_64 (a : UInt16) : IntKind.u64.wrap (a.toNat : Int) = (a.toUInt64.toNat : Int) := by rw [IntKind.wrap_u64]; have := lt16 a; simp; omega
theorem cv_32_64 (a : UInt32) : IntKind.u64.wrap (a.toNat : Int) = (a.toUInt64.toNat : Int) := by rw [IntKind.wrap_u64]; have := lt32 a; simp; omega
theorem cv_64_8 (a : UInt64) : IntKind.u8.wrap (a.toNat : Int) = (a.toUInt8.toNat : Int) := by rw [IntKind.wrap_u8']; simp
theorem cv_64_16 (a : UInt64) : IntKind.u16.wrap (a.toNat : Int) = (a.toUInt16.toNat : Int) := by rw [IntKind.wrap_u16]; simp
theorem cv_64_32 (a : UInt64) : IntKind.u32.wrap (a.toNat : Int) = (a.toUInt32.toNat : Int) := by rw [IntKind.wrap_u32']; simp
theorem cv_8_i (a : UInt8) : IntKind.i64.wrap (a.toNat : Int) = (a.toNat : Int) := wrap_in (by omega) (by have := lt8 a; omega)
theorem cv_16_i (a : UInt16) : IntKind.i64.wrap (a.toNat : Int) = (a.toNat : Int) := wrap_in (by omega) (by have := lt16 a; omega)
theorem cv_32_i (a : UInt32) : IntKind.i64.wrap (a.toNat : Int) = (a.toNat : Int) := wrap_in (by omega) (by have := lt32 a; omega)
theorem cv_i_8 (n : Nat) : IntKind.u8.wrap (n : Int) = ((UInt8.ofNat n).toNat : Int) := by rw [IntKind.wrap_u8']; simp
theorem cv_i_16 (n : Nat) : IntKind.u16.wrap (n : Int) = ((UInt16.ofNat n).toNat : Int) := by rw [IntKind.wrap_u16]; simp
theorem cv_i_32 (n : Nat) : IntKind.u32.wrap (n : Int) = ((UInt32.ofNat n).toNat : Int) := by rw [IntKind.wrap_u32']; simp
theorem cv_8_8 (a : UInt8) : IntKind.u8.wrap (a.toNat : Int) = (a.toNat : Int) := wr8 a

theorem r_cv_64_8 {a : UInt64} {st dt : TypeId} (ht : tInt c.P dt = some .u8 := by exact ti rfl) (hs' : tInt c.P st = some .u64 := by exact ti rfl) (hx : ev ρ x = some (v64 a) := by exact rfl) (hb : Nat.blt d c.nt = true := by exact rfl) (k : SL c ((d, v8 a.toUInt8) :: ρ) B Φ Ψ ops rest Q) : SL c ρ B Φ Ψ ops (⟨some d, .convert st dt x, ty, ps, af, none⟩ :: rest) Q := r_cv ht hs' hx (cv_64_8 a) hb k
theorem r_cv_64_16 {a : UInt64} {st dt : TypeId} (ht : tInt c.P dt = some .u16 := by exact ti rfl) (hs' : tInt c.P st = some .u64 := by exact ti rfl) (hx : ev ρ x = some (v64 a) := by exact rfl) (hb : Nat.blt d c.nt = true := by exact rfl) (k : SL c ((d, v16 a.toUInt16) :: ρ) B Φ Ψ ops rest Q) : SL c ρ B Φ Ψ ops (⟨some d, .convert st dt x, ty, ps, af, none⟩ :: rest) Q := r_cv ht hs' hx (cv_64_16 a) hb k
theorem r_cv_64_32 {a : UInt64} {st dt : TypeId} (ht : tInt c.P dt = some .u32 := by exact ti rfl) (hs' : tInt c.P st = some .u64 := by exact ti rfl) (hx : ev ρ x = some (v64 a) := by exact rfl) (hb : Nat.blt d c.nt = true := by exact rfl) (k : SL c ((d, v32 a.toUInt32) :: ρ) B Φ Ψ ops rest Q) : SL c ρ B Φ Ψ ops (⟨some d, .convert st dt x, ty, ps, af, none⟩ :: rest) Q := r_cv ht hs' hx (cv_64_32 a) hb k
theorem r_cv_8_64 {a : UInt8} {st dt : TypeId} (ht : tInt c.P dt = some .u64 := by exact ti rfl) (hs' : tInt c.P st = some .u8 := by exact ti rfl) (hx : ev ρ x = some (v8 a) := by exact rfl) (hb : Nat.blt d c.nt = true := by exact rfl) (k : SL c ((d, v64 a.toUInt64) :: ρ) B Φ Ψ ops rest Q) : SL c ρ B Φ Ψ ops (⟨some d, .convert st dt x, ty, ps, af, none⟩ :: rest) Q := r_cv ht hs' hx (cv_8_64 a) hb k
theorem r_cv_16_64 {a : UInt16} {st dt : TypeId} (ht : tInt c.P dt = some .u64 := by exact ti rfl) (hs' : tInt c.P st = some .u16 := by exact ti rfl) (hx : ev ρ x = some (v16 a) := by exact rfl) (hb : Nat.blt d c.nt = true := by exact rfl) (k : SL c ((d, v64 a.toUInt64) :: ρ) B Φ Ψ ops rest Q) : SL c ρ B Φ Ψ ops (⟨some d, .convert st dt x, ty, ps, af, none⟩ :: rest) Q := r_cv ht hs' hx (cv_16_64 a) hb k
theorem r_cv_32_64 {a : UInt32} {st dt : TypeId} (ht : tInt c.P dt = some .u64 := by exact ti rfl) (hs' : tInt c.P st = some .u32 := by exact ti rfl) (hx : ev ρ x = some (v32 a) := by exact rfl) (hb : Nat.blt d c.nt = true := by exact rfl) (k : SL c ((d, v64 a.toUInt64) :: ρ) B Φ Ψ ops rest Q) : SL c ρ B Φ Ψ ops (⟨some d, .convert st dt x, ty, ps, af, none⟩ :: rest) Q := r_cv ht hs' hx (cv_32_64 a) hb k
theorem r_cv_8_i {a : UInt8} {st dt : TypeId} (ht : tInt c.P dt = some .i64 := by exact ti rfl) (hs' : tInt c.P st = some .u8 := by exact ti rfl) (hx : ev ρ x = some (v8 a) := by exact rfl) (hb : Nat.blt d c.nt = true := by exact rfl) (k : SL c ((d, vi (a.toNat : Int)) :: ρ) B Φ Ψ ops rest Q) : SL c ρ B Φ Ψ ops (⟨some d, .convert st dt x, ty, ps, af, none⟩ :: rest) Q := r_cv ht hs' hx (cv_8_i a) hb k
theorem r_cv_16_i {a : UInt16} {st dt : TypeId} (ht : tInt c.P dt = some .i64 := by exact ti rfl) (hs' : tInt c.P st = some .u16 := by exact ti rfl) (hx : ev ρ x = some (v16 a) := by exact rfl) (hb : Nat.blt d c.nt = true := by exact rfl) (k : SL c ((d, vi (a.toNat : Int)) :: ρ) B Φ Ψ ops rest Q) : SL c ρ B Φ Ψ ops (⟨some d, .convert st dt x, ty, ps, af, none⟩ :: rest) Q := r_cv ht hs' hx (cv_16_i a) hb k
theorem r_cv_32_i {a : UInt32} {st dt : TypeId} (ht : tInt c.P dt = some .i64 := by exact ti rfl) (hs' : tInt c.P st = some .u32 := by exact ti rfl) (hx : ev ρ x = some (v32 a) := by exact rfl) (hb : Nat.blt d c.nt = true := by exact rfl) (k : SL c ((d, vi (a.toNat : Int)) :: ρ) B Φ Ψ ops rest Q) : SL c ρ B Φ Ψ ops (⟨some d, .convert st dt x, ty, ps, af, none⟩ :: rest) Q := r_cv ht hs' hx (cv_32_i a) hb k
theorem r_cv_i_8 {n : Nat} {st dt : TypeId} (ht : tInt c.P dt = some .u8 := by exact ti rfl) (hs' : tInt c.P st = some .i64 := by exact ti rfl) (hx : ev ρ x = some (vi (n : Int)) := by exact rfl) (hb : Nat.blt d c.nt = true := by exact rfl) (k : SL c ((d, v8 (UInt8.ofNat n)) :: ρ) B Φ Ψ ops rest Q) : SL c ρ B Φ Ψ ops (⟨some d, .convert st dt x, ty, ps, af, none⟩ :: rest) Q := r_cv ht hs' hx (cv_i_8 n) hb k

/-! ### Unsigned remainders, comparisons -/
theorem r_rem32 {a b : UInt32} (hx : ev ρ x = some (v32 a)) (hy : ev ρ y = some (v32 b)) (h0 : b ≠ 0) (hb : Nat.blt d c.nt = true) (k : SL c ((d, v32 (a % b)) :: ρ) B Φ Ψ ops rest Q) : SL c ρ B Φ Ψ ops (⟨some d, .binOp .rem xt x y yt, ty, ps, af, none⟩ :: rest) Q :=
  r_bin hx hy hb (fun w => by
    have hb0 : ¬ ((b.toNat : Int) = 0) := fun e => h0 (by
      have : b.toNat = 0 := by omega
      exact UInt32.toNat_inj.1 (by simpa using this))
    have e : ((a % b).toNat : Int) = (a.toNat : Int).tmod (b.toNat : Int) := by rw [UInt32.toNat_mod]; exact (Int.ofNat_tmod _ _)
    simp only [eqGuard, binOp, Op.intDiv]
    rw [if_neg hb0, ← e]; rfl) k
theorem r_rem_i {a b : Int} (hx : ev ρ x = some (vi a)) (hy : ev ρ y = some (vi b)) (h0 : b ≠ 0) (hb : Nat.blt d c.nt = true) (k : SL c ((d, vi (a.tmod b)) :: ρ) B Φ Ψ ops rest Q) : SL c ρ B Φ Ψ ops (⟨some d, .binOp .rem xt x y yt, ty, ps, af, none⟩ :: rest) Q :=
  r_bin hx hy hb (fun w => by
    simp [eqGuard, binOp, Op.intDiv, h0]) k

/-! ### The same with a literal -/
theorem r_and64c {a : UInt64} {n : Nat} (hx : ev ρ x = some (v64 a) := by exact rfl) (hy : ev ρ y = some (.int .u64 (n : Int)) := by exact rfl) (hn : (UInt64.ofNat n).toNat = n := by exact rfl) (hb : Nat.blt d c.nt = true := by exact rfl) (k : SL c ((d, v64 (a &&& UInt64.ofNat n)) :: ρ) B Φ Ψ ops rest Q) : SL c ρ B Φ Ψ ops (⟨some d, .binOp .and xt x y yt, ty, ps, af, none⟩ :: rest) Q :=
  r_and64 hx (by rw [hy, v64, hn]) hb k
theorem r_mul64c {a : UInt64} {n : Nat} (hx : ev ρ x = some (.int .u64 (n : Int)) := by exact rfl) (hy : ev ρ y = some (v64 a) := by exact rfl) (hn : (UInt64.ofNat n).toNat = n := by exact rfl) (hb : Nat.blt d c.nt = true := by exact rfl) (k : SL c ((d, v64 (UInt64.ofNat n * a)) :: ρ) B Φ Ψ ops rest Q) : SL c ρ B Φ Ψ ops (⟨some d, .binOp .mul xt x y yt, ty, ps, af, none⟩ :: rest) Q :=
  r_mul64 (by rw [hx, v64, hn]) hy hb k
theorem r_and8c {a : UInt8} {n : Nat} (hx : ev ρ x = some (v8 a) := by exact rfl) (hy : ev ρ y = some (.int .u8 (n : Int)) := by exact rfl) (hn : (UInt8.ofNat n).toNat = n := by exact rfl) (hb : Nat.blt d c.nt = true := by exact rfl) (k : SL c ((d, v8 (a &&& UInt8.ofNat n)) :: ρ) B Φ Ψ ops rest Q) : SL c ρ B Φ Ψ ops (⟨some d, .binOp .and xt x y yt, ty, ps, af, none⟩ :: rest) Q :=
  r_and8 hx (by rw [hy, v8, hn]) hb k
theorem r_rem32c {a : UInt32} {n : Nat} (hx : ev ρ x = some (v32 a) := by exact rfl) (hy : ev ρ y = some (.int .u32 (n : Int)) := by exact rfl) (hn : (UInt32.ofNat n).toNat = n := by exact rfl) (h0 : Nat.beq n 0 = false := by exact rfl) (hb : Nat.blt d c.nt = true := by exact rfl) (k : SL c ((d, v32 (a % UInt32.ofNat n)) :: ρ) B Φ Ψ ops rest Q) : SL c ρ B Φ Ψ ops (⟨some d, .binOp .rem xt x y yt, ty, ps, af, none⟩ :: rest) Q :=
  r_rem32 hx (by rw [hy, v32, hn]) (fun e => ne_of_beq h0 (by rw [e] at hn; exact hn.symm)) hb k
/-- Sums of unsigned numbers. -/
theorem r_add32 {a b : UInt32} (hx : ev ρ x = some (v32 a) := by exact rfl) (hy : ev ρ y = some (v32 b) := by exact rfl) (hb : Nat.blt d c.nt = true := by exact rfl) (k : SL c ((d, v32 (a + b)) :: ρ) B Φ Ψ ops rest Q) : SL c ρ B Φ Ψ ops (⟨some d, .binOp .add xt x y yt, ty, ps, af, none⟩ :: rest) Q :=
  r_add hx hy hb (by
    have e : IntKind.u32.wrap ((a.toNat : Int) + (b.toNat : Int)) = ((a + b).toNat : Int) := by
      rw [IntKind.wrap_u32', UInt32.toNat_add]; omega
    rw [e]; exact k)
theorem r_add32c {a : UInt32} {n : Nat} (hx : ev ρ x = some (v32 a) := by exact rfl) (hy : ev ρ y = some (.int .u32 (n : Int)) := by exact rfl) (hn : (UInt32.ofNat n).toNat = n := by exact rfl) (hb : Nat.blt d c.nt = true := by exact rfl) (k : SL c ((d, v32 (a + UInt32.ofNat n)) :: ρ) B Φ Ψ ops rest Q) : SL c ρ B Φ Ψ ops (⟨some d, .binOp .add xt x y yt, ty, ps, af, none⟩ :: rest) Q :=
  r_add32 hx (by rw [hy, v32, hn]) hb k

/-! ### 'min', 'max' -/
theorem r_min {a b : Int} {at' : Array TypeId} (hx : ev ρ x = some (.int kk a) := by exact rfl) (hy : ev ρ y = some (.int kk b) := by exact rfl) (hb : Nat.blt d c.nt = true := by exact rfl) (k : SL c ((d, .int kk (if b < a then b else a)) :: ρ) B Φ Ψ ops rest Q) : SL c ρ B Φ Ψ ops (⟨some d, .call ⟨.builtin .min, #[x, y], at'⟩, ty, ps, af, none⟩ :: rest) Q :=
  r_val rfl (fun _ => by simp) rfl hb (fun a' w hs => by
    by_cases h : b < a <;> simp [execOp, resolve, invoke, builtin, hs.ev hx, hs.ev hy, Builtin.min_, Builtin.min2, h]) k
theorem r_max {a b : Int} {at' : Array TypeId} (hx : ev ρ x = some (.int kk a) := by exact rfl) (hy : ev ρ y = some (.int kk b) := by exact rfl) (hb : Nat.blt d c.nt = true := by exact rfl) (k : SL c ((d, .int kk (if a < b then b else a)) :: ρ) B Φ Ψ ops rest Q) : SL c ρ B Φ Ψ ops (⟨some d, .call ⟨.builtin .max, #[x, y], at'⟩, ty, ps, af, none⟩ :: rest) Q :=
  r_val rfl (fun _ => by simp) rfl hb (fun a' w hs => by
    by_cases h : a < b <;> simp [execOp, resolve, invoke, builtin, hs.ev hx, hs.ev hy, Builtin.max_, Builtin.max2, h]) k
end
end Go.Proofs.YtjahiohlekdhoaaDoor

namespace Go.Proofs.YtjahiohlekdhoaaDoor
open Go

/-- What is told is this value, and nothing else. -/
def ret1 (v : Value) : PostC := fun v' B' Φ' => v' = v ∧ B' = [] ∧ Φ' = []
/-- What is told is this value, of which these facts hold. -/
def retF (f : Value → List Res → Prop) : PostC := fun v' B' Φ' => B' = [] ∧ f v' Φ'

section
variable {c : Ctx} {ρ : List (Nat × Value)} {B B' B0 Br : List Own} {Φ Φ' Φp : List Res} {Ψ : List JR} {ops : Array Oper} {rest : List Oper} {Q : Post} {d ty t : Nat} {ps : String} {af : Array Edge} {x y z : Operand} {v u : Value} {xt yt : TypeId} {m n : Int} {kk : IntKind}

theorem r_call1 {f : FuncId} {args cap : List Value} {l : List Operand} {vs : List Value} {at' : Array TypeId} {fo : Operand} (hc : Ctr c.P c.G f args [] Φp (ret1 v)) (hf : ev ρ fo = some (.func (.func f) #[] cap.toArray) := by exact rfl) (hargs : evs ρ l = some vs := by exact rfl) (ha : args = vs ++ cap := by exact rfl)
    (hΦ : ∀ φ ∈ Φp, φ ∈ Φ := by simp) (hb : Nat.blt d c.nt = true := by exact rfl) (k : SL c ((d, v) :: ρ) B Φ Ψ ops rest Q) : SL c ρ B Φ Ψ ops (⟨some d, .call ⟨.value fo, l.toArray, at'⟩, ty, ps, af, none⟩ :: rest) Q :=
  r_call (Bp := []) (Br := B) hc hf hargs ha hΦ hb (by rintro _ _ _ ⟨rfl, rfl, rfl⟩; exact k)
theorem r_callF {f : FuncId} {args cap : List Value} {l : List Operand} {vs : List Value} {at' : Array TypeId} {fo : Operand} {F : Value → List Res → Prop} (hc : Ctr c.P c.G f args [] Φp (retF F)) (hf : ev ρ fo = some (.func (.func f) #[] cap.toArray) := by exact rfl) (hargs : evs ρ l = some vs := by exact rfl) (ha : args = vs ++ cap := by exact rfl)
    (hΦ : ∀ φ ∈ Φp, φ ∈ Φ := by simp) (hb : Nat.blt d c.nt = true := by exact rfl) (k : ∀ v Φ', F v Φ' → SL c ((d, v) :: ρ) B (Φ' ++ Φ) Ψ ops rest Q) : SL c ρ B Φ Ψ ops (⟨some d, .call ⟨.value fo, l.toArray, at'⟩, ty, ps, af, none⟩ :: rest) Q :=
  r_call (Bp := []) (Br := B) hc hf hargs ha hΦ hb (by rintro v _ Φ' ⟨rfl, h⟩; exact k v Φ' h)

/-- A result: a register's value, or a variable's. -/
inductive Res1 (P : Program) (ρ : List (Nat × Value)) (B : List Own) : ResultVar → Value → Prop
  | tmp {t : Nat} {v : Value} (h : lk ρ t = some v) : Res1 P ρ B (.tmp t) v
  | one {t b s : Nat} {ty bt : TypeId} {v : Value} (h : lk ρ t = some (.pointer (some ⟨b, 0, none⟩))) (hs : tSz P ty = some (false, s)) (hB : Own.box b [v] bt ∈ B) : Res1 P ρ B (.cell t ty) v
  | agg {t b s : Nat} {ty bt : TypeId} {cs : List Value} (h : lk ρ t = some (.pointer (some ⟨b, 0, none⟩))) (hs : tSz P ty = some (true, s)) (hl : cs.length = s) (hB : Own.box b cs bt ∈ B) : Res1 P ρ B (.cell t ty) (.agg cs.toArray)

def resOne (tmps : Array Value) : ResultVar → Sem Value
  | .tmp t => pure (tmps.getD t undef)
  | .cell a t => do loadVar t (← asAddr (tmps.getD a undef))
theorem results_eq (fn : Func) (tmps : Array Value) : results fn tmps = (do
    let vs ← fn.results.mapM (resOne tmps)
    pure (if h : vs.size = 1 then vs[0] else .tuple vs)) := rfl

theorem Res1.run {rv : ResultVar} {a : Act} {w w' : World} (h : Res1 c.P ρ B rv v) (hs : St c ρ B Φ Ψ a w) (hw : ∀ o ∈ B, marks [o] = [] → o.holds w') : (resOne a.tmps rv).run c.P w' = .ok v w' := by
  cases h with
  | tmp h =>
    have := hs.reg _ _ h
    rw [Array.getD_eq_getD_getElem?] at this
    simp [resOne, this]
  | one h hz hB =>
    have h1 := hs.reg _ _ h
    rw [Array.getD_eq_getD_getElem?] at h1
    simp [resOne, h1, asAddr, run_load_box_one hz (hw _ hB rfl) (off := 0) rfl]
  | agg h hz hl hB =>
    have h1 := hs.reg _ _ h
    rw [Array.getD_eq_getD_getElem?] at h1
    simp [resOne, h1, asAddr, run_load_box_agg hz (hw _ hB rfl) (off := 0) (by rw [List.drop_zero]; exact List.take_of_length_le (Nat.le_of_eq hl)) hl]

theorem results1 {fn : Func} {rv : ResultVar} {a : Act} {w w' : World} (hr : fn.results = #[rv]) (h : Res1 c.P ρ B rv v) (hs : St c ρ B Φ Ψ a w) (hw : ∀ o ∈ B, marks [o] = [] → o.holds w') : (results fn a.tmps).run c.P w' = .ok v w' := by
  have := h.run hs hw
  simp [results_eq, hr, this]
theorem results2 {fn : Func} {r1 r2 : ResultVar} {v1 v2 : Value} {a : Act} {w w' : World} (hr : fn.results = #[r1, r2]) (h1 : Res1 c.P ρ B r1 v1) (h2 : Res1 c.P ρ B r2 v2) (hs : St c ρ B Φ Ψ a w) (hw : ∀ o ∈ B, marks [o] = [] → o.holds w') : (results fn a.tmps).run c.P w' = .ok (.tuple #[v1, v2]) w' := by
  have h1 := h1.run hs hw
  have h2 := h2.run hs hw
  simp [results_eq, hr, h1, h2]
theorem results3 {fn : Func} {r1 r2 r3 : ResultVar} {v1 v2 v3 : Value} {a : Act} {w w' : World} (hr : fn.results = #[r1, r2, r3]) (h1 : Res1 c.P ρ B r1 v1) (h2 : Res1 c.P ρ B r2 v2) (h3 : Res1 c.P ρ B r3 v3) (hs : St c ρ B Φ Ψ a w) (hw : ∀ o ∈ B, marks [o] = [] → o.holds w') : (results fn a.tmps).run c.P w' = .ok (.tuple #[v1, v2, v3]) w' := by
  have h1 := h1.run hs hw
  have h2 := h2.run hs hw
  have h3 := h3.run hs hw
  simp [results_eq, hr, h1, h2, h3]

section
variable {fn : Func} {post : PostC}
theorem sp_retv {v : Value} {rv : ResultVar} (hc : c.r = none) (hr : fn.results = #[rv]) (hx : Res1 c.P ρ B rv v) (hK : c.K = blks B0) (hY : c.Y = NoAv) (hp : post v B' Φ') (hB : B'.Sublist B) (hm : marks B' = []) (hΦ : ∀ φ ∈ Φ', φ ∈ Φ) : SP c ρ B Φ Ψ .ret (FQ c fn B0 post) :=
  sp_end (B' := B') (v := v) hc (fun _ _ hs _ hw => results1 hr hx hs hw) hK hY hp hB hm hΦ
theorem sp_ret2 {v1 v2 : Value} {r1 r2 : ResultVar} (hc : c.r = none) (hr : fn.results = #[r1, r2]) (h1 : Res1 c.P ρ B r1 v1) (h2 : Res1 c.P ρ B r2 v2) (hK : c.K = blks B0) (hY : c.Y = NoAv) (hp : post (.tuple #[v1, v2]) B' Φ') (hB : B'.Sublist B) (hm : marks B' = []) (hΦ : ∀ φ ∈ Φ', φ ∈ Φ) : SP c ρ B Φ Ψ .ret (FQ c fn B0 post) :=
  sp_end (B' := B') hc (fun _ _ hs _ hw => results2 hr h1 h2 hs hw) hK hY hp hB hm hΦ
theorem sp_ret3 {v1 v2 v3 : Value} {r1 r2 r3 : ResultVar} (hc : c.r = none) (hr : fn.results = #[r1, r2, r3]) (h1 : Res1 c.P ρ B r1 v1) (h2 : Res1 c.P ρ B r2 v2) (h3 : Res1 c.P ρ B r3 v3) (hK : c.K = blks B0) (hY : c.Y = NoAv) (hp : post (.tuple #[v1, v2, v3]) B' Φ') (hB : B'.Sublist B) (hm : marks B' = []) (hΦ : ∀ φ ∈ Φ', φ ∈ Φ) : SP c ρ B Φ Ψ .ret (FQ c fn B0 post) :=
  sp_end (B' := B') hc (fun _ _ hs _ hw => results3 hr h1 h2 h3 hs hw) hK hY hp hB hm hΦ
end

/-- Registers one by one. -/
def LkAll (ρ : List (Nat × Value)) : List (Nat × Value) → Prop
  | [] => True
  | (k, v) :: r => lk ρ k = some v ∧ LkAll ρ r
theorem LkAll.all {ρ : List (Nat × Value)} : ∀ {ρ' : List (Nat × Value)}, LkAll ρ ρ' → ∀ p ∈ ρ', lk ρ p.1 = some p.2
  | [], _, _, h => by cases h
  | (k, v) :: r, h, p, hp => by
    cases hp with
    | head => exact h.1
    | tail _ hp => exact LkAll.all h.2 p hp
/-- Facts one by one. -/
def PhAll (Φ : List Res) : List Res → Prop
  | [] => True
  | φ :: r => φ ∈ Φ ∧ PhAll Φ r
theorem PhAll.all {Φ : List Res} : ∀ {Φ' : List Res}, PhAll Φ Φ' → ∀ φ ∈ Φ', φ ∈ Φ
  | [], _, _, h => by cases h
  | ψ :: r, h, p, hp => by
    cases hp with
    | head => exact h.1
    | tail _ hp => exact PhAll.all h.2 p hp
theorem Ent.mk' {ρ' : List (Nat × Value)} (hρ : LkAll ρ ρ') (hΦ : PhAll Φ Φ') : Ent c ρ B Φ Ψ ρ' B Φ' Ψ := Ent.mk hρ.all hΦ.all fun _ h => h
theorem Ent.perm {ρ' : List (Nat × Value)} {B' : List Own} (hp : B'.Perm B) (hm : marks B' = marks B) (h : Ent c ρ B' Φ Ψ ρ' B' Φ' Ψ) : Ent c ρ B Φ Ψ ρ' B' Φ' Ψ := fun a w hs => h a w (by
  obtain ⟨V, U, M, m⟩ := hs.mem
  have hbl : ∀ b, blks B' b → blks B b := fun b ⟨q, hq, e⟩ => ⟨q, hp.subset hq, e⟩
  exact ⟨hs.nt, hs.reg, hs.dfr.trans (dfs_of hm).symm, V, U, M, ⟨m.vx, m.vm, fun b h => m.vb b (hbl b h), m.vlt, fun b h => m.ub b (hbl b h), m.ult, ⟨fun q hq => m.sep.holds q (hp.subset hq), m.sep.apart.perm hp.symm (fun {x y} h b h1 h2 => h b h2 h1)⟩, fun b h => m.own b (hbl b h), m.phi, m.psi, m.g, m.sz, m.frame, m.xlt, m.mo, m.io⟩⟩)
theorem w_perm {B' : List Own} {code : Code} (hp : B'.Perm B) (k : SW c ρ B' Φ Ψ code Q) (hm : marks B' = marks B) : SW c ρ B Φ Ψ code Q := fun a w hs => o_perm (ops := #[]) (rest := []) (Q := fun _ a w => code.wpIn (Fr c.r) 0 c.P Q a w) hp (fun a w hs => k a w hs) hm a w hs
theorem w_drop {o : Own} {code : Code} (hm : marks [o] = []) (k : SW c ρ B Φ Ψ code Q) : SW c ρ (o :: B) Φ Ψ code Q := fun a w hs => o_drop (ops := #[]) (rest := []) (Q := fun _ a w => code.wpIn (Fr c.r) 0 c.P Q a w) hm (fun a w hs => k a w hs) a w hs
/-- A state told anew: what is live. -/
theorem w_live (ρ' : List (Nat × Value)) (Φ' : List Res) {code : Code} (hρ : LkAll ρ ρ') (hΦ : PhAll Φ Φ') (k : SW c ρ' B Φ' Ψ code Q) : SW c ρ B Φ Ψ code Q := sw_weak (lk_of_all hρ.all) hΦ.all k
theorem l_live (ρ' : List (Nat × Value)) (Φ' : List Res) (hρ : LkAll ρ ρ') (hΦ : PhAll Φ Φ') (k : SL c ρ' B Φ' Ψ ops rest Q) : SL c ρ B Φ Ψ ops rest Q := fun a w hs => k a w (Ent.mk' (Ψ := Ψ) (c := c) (B := B) hρ hΦ a w hs)

/-- A post's code is weakened: a state's end told by another one. -/
theorem sp_mono {Q' : Post} {e : Exit} (h : ∀ a w, Q' e a w → Q e a w) (k : SP c ρ B Φ Ψ e Q') : SP c ρ B Φ Ψ e Q := fun a w hs => h a w (k a w hs)
end
end Go.Proofs.YtjahiohlekdhoaaDoor

namespace Go.Proofs.YtjahiohlekdhoaaDoor
open Go

/-- A slice of bytes: where it lies, how much it could hold, its bytes. -/
structure BS where
  ba : Option Addr
  cap : Nat
  xs : List UInt8
def BS.v (s : BS) : Value := .slice s.ba s.xs.length s.cap
def bv (xs : List UInt8) : List Value := xs.map v8
def BS.res (s : BS) : Res := Res.mem s.ba (bv s.xs)
/-- What a slice's numbers keep to. -/
def BS.ok (s : BS) : Prop := s.xs.length ≤ s.cap ∧ s.cap ≤ maxLen
theorem bv_len (xs : List UInt8) : (bv xs).length = xs.length := List.length_map _
theorem bv_get (xs : List UInt8) (i : Nat) (h : i < xs.length) : (bv xs)[i]? = some (v8 xs[i]) := by simp [bv, h]
theorem bv_one (xs : List UInt8) : (bv xs).all Value.oneCell' = true := by
  simp only [bv, List.all_map, List.all_eq_true]
  intro x _; rfl
theorem bv_append (xs ys : List UInt8) : bv (xs ++ ys) = bv xs ++ bv ys := List.map_append
theorem bv_cut (xs : List UInt8) (o n : Nat) : part' (bv xs) o n = bv ((xs.drop o).take n) := by simp [part', bv, List.map_drop, List.map_take]

/-- Where a loop over L is: what is left of it. -/
structure At {σ α : Type} (Y : σ → α → σ) (go : σ → Bool) (A : σ → α → Prop) (s0 : σ) (L : List α) (s : σ) (rest : List α) : Prop where
  go' : go s = true
  run : runs Y go s rest = runs Y go s0 L
  adm : Adm Y go A s rest
section
variable {σ α : Type} {Y : σ → α → σ} {go : σ → Bool} {A : σ → α → Prop} {s0 s : σ} {L rest : List α} {x : α}
theorem At.start (h : go s0 = true) (ha : Adm Y go A s0 L) : At Y go A s0 L s0 L := ⟨h, rfl, ha⟩
theorem At.give (h : At Y go A s0 L s (x :: rest)) : A s x := h.adm.1
theorem At.next (h : At Y go A s0 L s (x :: rest)) (hg : go (Y s x) = true) : At Y go A s0 L (Y s x) rest := ⟨hg, by rw [← h.run, runs_cons hg], h.adm.2 hg⟩
theorem At.stop (h : At Y go A s0 L s (x :: rest)) (hg : go (Y s x) = false) : Y s x = runs Y go s0 L := by rw [← h.run, runs_stop hg]
theorem At.done (h : At Y go A s0 L s []) : s = runs Y go s0 L := h.run
theorem At.of {rest' : List α} (h : At Y go A s0 L s rest) (e : rest = rest') : At Y go A s0 L s rest' := e ▸ h
end
theorem drop_cons {α : Type} (l : List α) (i : Nat) (h : i < l.length) : l.drop i = l[i] :: l.drop (i + 1) := List.drop_eq_getElem_cons h

def bElt (b : UInt8) (vs : List Value) : Res := Res.pure (vs = [v8 b])
section
variable {c : Ctx} {ρ : List (Nat × Value)} {B B' B0 Br : List Own} {Φ Φ' Φp : List Res} {Ψ : List JR} {Q : Post} {v : Value} {n e sz : Nat} {cs xs : List Value} {ex : Exit}
theorem sp_of_sl (h : ∀ {Q' : Post}, SL c ρ B' Φ' Ψ #[] [] Q' → SL c ρ B Φ Ψ #[] [] Q') (k : SP c ρ B' Φ' Ψ ex Q) : SP c ρ B Φ Ψ ex Q :=
  fun a w hs => h (Q' := fun _ a w => Q ex a w) (fun a w hs => k a w hs) a w hs
theorem sp_freeze {b : Nat} {bt : TypeId} (k : SP c ρ B (Res.mem (some ⟨b, 0, none⟩) cs :: Φ) Ψ ex Q) : SP c ρ (.box b cs bt :: B) Φ Ψ ex Q := sp_of_sl (fun h => o_freeze h) k
theorem sp_drop {o : Own} (hm : marks [o] = []) (k : SP c ρ B Φ Ψ ex Q) : SP c ρ (o :: B) Φ Ψ ex Q := sp_of_sl (fun h => o_drop hm h) k
theorem sp_perm {B' : List Own} (hp : B'.Perm B) (hm : marks B' = marks B) (k : SP c ρ B' Φ Ψ ex Q) : SP c ρ B Φ Ψ ex Q := sp_of_sl (fun h => o_perm hp h hm) k
theorem sp_eqB {B' : List Own} (hB : B = B') (k : SP c ρ B' Φ Ψ ex Q) : SP c ρ B Φ Ψ ex Q := hB ▸ k
theorem sp_row (k : ∀ ba cap, v = .slice ba n cap → n ≤ cap → cap ≤ maxLen → xs.length = n * sz → SP c ρ B (Res.mem ba xs :: Φ) Ψ ex Q) : SP c ρ (.row v n xs e sz :: B) Φ Ψ ex Q :=
  fun a w hs => o_row (ops := #[]) (rest := []) (Q := fun _ a w => Q ex a w) (fun ba cap h1 h2 h3 h4 a w hs => k ba cap h1 h2 h3 h4 a w hs) a w hs
end

/-- The k-th block in front; the block in front at the k-th place. -/
def pull (k : Nat) (B : List Own) : List Own := match B.drop k with
  | [] => B
  | x :: r => x :: (B.take k ++ r)
def push (k : Nat) : List Own → List Own
  | [] => []
  | x :: r => r.take k ++ x :: r.drop k
theorem pull_perm (k : Nat) (B : List Own) : (pull k B).Perm B := by
  unfold pull
  split
  · exact .refl _
  · rename_i x r h
    have : B.take k ++ x :: r = B := by rw [← h]; exact List.take_append_drop k B
    have h2 : (B.take k ++ x :: r).Perm B := by rw [this]
    exact (List.perm_middle.symm).trans h2
theorem push_perm (k : Nat) (B : List Own) : (push k B).Perm B := by
  cases B with
  | nil => exact .refl _
  | cons x r =>
    refine (List.perm_middle).trans ?_
    rw [List.take_append_drop]
section
variable {c : Ctx} {ρ : List (Nat × Value)} {B : List Own} {Φ : List Res} {Ψ : List JR} {ops : Array Oper} {rest : List Oper} {Q : Post} {ex : Exit}
theorem o_pull (k : Nat) (hm : marks (pull k B) = marks B) (h : SL c ρ (pull k B) Φ Ψ ops rest Q) : SL c ρ B Φ Ψ ops rest Q := o_perm (pull_perm k B) h hm
theorem o_push (k : Nat) (hm : marks (push k B) = marks B) (h : SL c ρ (push k B) Φ Ψ ops rest Q) : SL c ρ B Φ Ψ ops rest Q := o_perm (push_perm k B) h hm
theorem wo_pull (k : Nat) {code : Code} (hm : marks (pull k B) = marks B) (h : SW c ρ (pull k B) Φ Ψ code Q) : SW c ρ B Φ Ψ code Q := w_perm (pull_perm k B) h hm
theorem sp_pull (k : Nat) (hm : marks (pull k B) = marks B) (h : SP c ρ (pull k B) Φ Ψ ex Q) : SP c ρ B Φ Ψ ex Q := sp_perm (pull_perm k B) hm h
theorem sp_push (k : Nat) (hm : marks (push k B) = marks B) (h : SP c ρ (push k B) Φ Ψ ex Q) : SP c ρ B Φ Ψ ex Q := sp_perm (push_perm k B) hm h
end

section
variable {c : Ctx} {ρ : List (Nat × Value)} {B : List Own} {Φ Φp : List Res} {Q : Post}
/-- 'for .. := range g' where the iterator tells nothing but the state. -/
theorem sw_range0 {σ ι α : Type} {gf : FuncId} {g : Operand} {caps : List Value} {ps : List Tmp} {assign body : Code} {E : α → List Value → Res} {L : List α} {Bp : List Own}
    (hc : ICtr c.P c.G gf caps Bp Φp E L) (Bs : σ → ι → List Own) (Φs : σ → ι → List Res) (jmp : σ → Option Code) (Y : σ → α → σ) (A : σ → α → Prop) (s0 : σ) (i0 : ι)
    (hg : ev ρ g = some (.func (.func gf) #[] caps.toArray)) (hr : c.r = none) (hB : B = Bp ++ Bs s0 i0) (hA : Adm Y (fun s => (jmp s).isNone) A s0 L) (hj0 : jmp s0 = none) (hΦp : ∀ φ ∈ Φp, φ ∈ Φ) (hΦs : ∀ φ ∈ Φs s0 i0, φ ∈ Φ) (hmk : ∀ s i, marks (Bs s i) = marks (Bs s0 i0)) (hps : (ps.all fun p => Nat.blt p c.nt) = true) (hE : ∀ x vs V w, (E x vs).p V w → vs.length = ps.length)
    (hbody : ∀ (l mk : Nat) (rec : LoopState → Option Code → Loop) (w : World) (X U K : Av) (s : σ) (i : ι) (x : α) (vs : List Value), (∀ st j, rec st j = { rec .busy none with state := st, pending := j }) → jmp s = none → A s x → Tied ⟨c.P, some l, c.nt, w, X, K, NoAv, c.G⟩ c U →
      SW ⟨c.P, some l, c.nt, w, X, K, NoAv, c.G⟩ (pr ps vs ρ) (two rec l mk .ready none (Bs s i)) (E x vs :: Φs s i) [] assign (AQ ⟨c.P, some l, c.nt, w, X, K, NoAv, c.G⟩ l body (RQ ⟨c.P, some l, c.nt, w, X, K, NoAv, c.G⟩ c rec l mk Bs Φs jmp (Y s x) U)))
    (hend : ∀ s' i mk, s' = runs Y (fun s => (jmp s).isNone) s0 L → (jmp s' = none → SP c ρ (.mark mk :: Bs s' i) (Φs s' i) [] .normal Q) ∧ ∀ j, jmp s' = some j → SW c ρ (.mark mk :: Bs s' i) (Φs s' i) [] j Q) :
    SW c ρ B Φ [] (.rangeFunc g ps.toArray assign body) Q := by
  rw [hB]
  exact sw_range (Bp := Bp) hc hr hg Bs Φs jmp Y A s0 i0 hA hj0 hΦp hΦs hmk (fun p hp => by simpa using List.all_eq_true.1 hps p hp) hE hbody (by
    rintro s' i _ _ mk ⟨h1, rfl, rfl⟩
    exact hend s' i mk h1)
/-- The same of a loop that never stops. -/
theorem sw_rangeA {σ ι α : Type} {gf : FuncId} {g : Operand} {caps : List Value} {ps : List Tmp} {assign body : Code} {E : α → List Value → Res} {L : List α} {Bp : List Own}
    (hc : ICtr c.P c.G gf caps Bp Φp E L) (Bs : σ → ι → List Own) (Φs : σ → ι → List Res) (Y : σ → α → σ) (A : σ → α → Prop) (s0 : σ) (i0 : ι)
    (hg : ev ρ g = some (.func (.func gf) #[] caps.toArray)) (hr : c.r = none) (hB : B = Bp ++ Bs s0 i0) (hA : Adm Y (fun _ => true) A s0 L) (hΦp : ∀ φ ∈ Φp, φ ∈ Φ) (hΦs : ∀ φ ∈ Φs s0 i0, φ ∈ Φ) (hmk : ∀ s i, marks (Bs s i) = marks (Bs s0 i0)) (hps : (ps.all fun p => Nat.blt p c.nt) = true) (hE : ∀ x vs V w, (E x vs).p V w → vs.length = ps.length)
    (hbody : ∀ (l mk : Nat) (rec : LoopState → Option Code → Loop) (w : World) (X U K : Av) (s : σ) (i : ι) (x : α) (vs : List Value), (∀ st j, rec st j = { rec .busy none with state := st, pending := j }) → A s x → Tied ⟨c.P, some l, c.nt, w, X, K, NoAv, c.G⟩ c U →
      SW ⟨c.P, some l, c.nt, w, X, K, NoAv, c.G⟩ (pr ps vs ρ) (two rec l mk .ready none (Bs s i)) (E x vs :: Φs s i) [] assign (AQ ⟨c.P, some l, c.nt, w, X, K, NoAv, c.G⟩ l body (RQ ⟨c.P, some l, c.nt, w, X, K, NoAv, c.G⟩ c rec l mk Bs Φs (fun _ => none) (Y s x) U)))
    (hend : ∀ i mk, SP c ρ (.mark mk :: Bs (L.foldl Y s0) i) (Φs (L.foldl Y s0) i) [] .normal Q) :
    SW c ρ B Φ [] (.rangeFunc g ps.toArray assign body) Q :=
  sw_range0 hc Bs Φs (fun _ => none) Y A s0 i0 hg hr hB hA rfl hΦp hΦs hmk hps hE (fun l mk rec w X U K s i x vs hrec _ hAx ht => hbody l mk rec w X U K s i x vs hrec hAx ht) (by
    rintro s' i mk rfl
    have e : runs Y (fun _ : σ => (none : Option Code).isNone) s0 L = L.foldl Y s0 := runs_all (fun _ => rfl) L s0
    rw [e]
    exact ⟨fun _ => hend i mk, fun j h => by cases h⟩)
end

section
variable {c : Ctx} {ρ : List (Nat × Value)} {Bl : List Own} {Φ : List Res} {l mk : Nat} {rec : LoopState → Option Code → Loop} {body : Code} {R : Post}
/-- A round begins. -/
theorem sp_asgR (hrec : ∀ st j, rec st j = { rec .busy none with state := st, pending := j }) (hc : c.r = some l) (k : SW c ρ (two rec l mk .busy none Bl) Φ [] body R) : SP c ρ (two rec l mk .ready none Bl) Φ [] .normal (AQ c l body R) := by
  have h1 : (rec .ready none).state = .ready := by rw [hrec]
  have h2 : ({ rec .ready none with state := .busy } : Loop) = rec .busy none := by rw [hrec .ready none, hrec .busy none]
  refine sp_asg (r := rec .ready none) (B' := two rec l mk .busy none Bl) h1 ?_ hc k
  rw [h2]
  exact .hd
end
end Go.Proofs.YtjahiohlekdhoaaDoor

namespace Go.Proofs.YtjahiohlekdhoaaDoor
open Go

/-- What is told is a slice of these bytes. -/
def retB (xs : List UInt8) : PostC := retF fun v Φ' => ∃ s : BS, v = s.v ∧ s.ok ∧ s.xs = xs ∧ Φ' = [s.res]
/-- What is told is a row of one's own of these bytes. -/
def retR (e : TypeId) (xs : List UInt8) : PostC := fun v B' Φ' => v.cells = #[v] ∧ v.oneCell' = true ∧ B' = [.row v xs.length (bv xs) e 1] ∧ Φ' = []

theorem bsz (xs : List UInt8) : (xs.map v8).length = xs.length := by simp

section
variable {c : Ctx} {ρ : List (Nat × Value)} {B B' B0 Br Bp : List Own} {Φ Φ' Φp : List Res} {Ψ : List JR} {ops : Array Oper} {rest : List Oper} {Q : Post} {d ty t : Nat} {ps : String} {af : Array Edge} {x y z : Operand} {v u : Value} {xt yt : TypeId} {m n : Int} {kk : IntKind} {e sz by' : Nat} {ba : Option Addr} {ex : Exit}

theorem r_callB {f : FuncId} {args cap : List Value} {l : List Operand} {vs : List Value} {at' : Array TypeId} {fo : Operand} {xs : List UInt8} (hc : Ctr c.P c.G f args [] Φp (retB xs)) (hf : ev ρ fo = some (.func (.func f) #[] cap.toArray) := by exact rfl) (hargs : evs ρ l = some vs := by exact rfl) (ha : args = vs ++ cap := by exact rfl)
    (hΦ : ∀ φ ∈ Φp, φ ∈ Φ := by simp) (hb : Nat.blt d c.nt = true := by exact rfl) (k : ∀ s : BS, s.ok → s.xs = xs → SL c ((d, s.v) :: ρ) B (s.res :: Φ) Ψ ops rest Q) : SL c ρ B Φ Ψ ops (⟨some d, .call ⟨.value fo, l.toArray, at'⟩, ty, ps, af, none⟩ :: rest) Q :=
  r_callF hc hf hargs ha hΦ hb (by rintro _ _ ⟨s, rfl, h1, h2, rfl⟩; exact k s h1 h2)
theorem r_callR {f : FuncId} {args cap : List Value} {l : List Operand} {vs : List Value} {at' : Array TypeId} {fo : Operand} {xs : List UInt8} (hc : Ctr c.P c.G f args Bp Φp (retR e xs)) (hf : ev ρ fo = some (.func (.func f) #[] cap.toArray) := by exact rfl) (hargs : evs ρ l = some vs := by exact rfl) (ha : args = vs ++ cap := by exact rfl)
    (hΦ : ∀ φ ∈ Φp, φ ∈ Φ := by simp) (hb : Nat.blt d c.nt = true := by exact rfl) (k : ∀ v, v.cells = #[v] → v.oneCell' = true → SL c ((d, v) :: ρ) (.row v xs.length (bv xs) e 1 :: Br) Φ Ψ ops rest Q) : SL c ρ (Bp ++ Br) Φ Ψ ops (⟨some d, .call ⟨.value fo, l.toArray, at'⟩, ty, ps, af, none⟩ :: rest) Q :=
  r_call hc hf hargs ha hΦ hb (by rintro v _ _ ⟨h1, h2, rfl, rfl⟩; exact k v h1 h2)

/-- 's == nil' of a slice. -/
theorem r_nil_eq {cap n : Nat} (ht : tSl c.P xt = some (e, sz, by') := by exact tl rfl) (hx : ev ρ x = some (.slice ba n cap) := by exact rfl) (hy : ev ρ y = some (.slice none 0 0) := by exact rfl) (hb : Nat.blt d c.nt = true := by exact rfl) (k : SL c ((d, .bool ba.isNone) :: ρ) B Φ Ψ ops rest Q) :
    SL c ρ B Φ Ψ ops (⟨some d, .binOp .eql xt x y yt, ty, ps, af, none⟩ :: rest) Q := r_bin hx hy hb (fun w => by
      obtain ⟨hu, _⟩ := tSl_inv ht
      have : (Op.equal xt (.slice ba n cap) (.slice none 0 0)).run c.P w = .ok ba.isNone w := by
        show (Op.equalIn (9999 + 1) xt _ _).run c.P w = _
        cases ba <;> (unfold Op.equalIn; simp [run_underlying hu])
      simp [eqGuard, binOp, this]) k

theorem r_eqlb' {p q : Bool} (hx : ev ρ x = some (.bool p) := by exact rfl) (hy : ev ρ y = some (.bool q) := by exact rfl) (hb : Nat.blt d c.nt = true := by exact rfl) (ht : c.P.underlying xt = some .bool := by exact tb4) (k : SL c ((d, .bool (p == q)) :: ρ) B Φ Ψ ops rest Q) :
    SL c ρ B Φ Ψ ops (⟨some d, .binOp .eql xt x y yt, ty, ps, af, none⟩ :: rest) Q := r_eqlb ht hx hy hb k
theorem r_neqb' {p q : Bool} (hx : ev ρ x = some (.bool p) := by exact rfl) (hy : ev ρ y = some (.bool q) := by exact rfl) (hb : Nat.blt d c.nt = true := by exact rfl) (ht : c.P.underlying xt = some .bool := by exact tb4) (k : SL c ((d, .bool (!(p == q))) :: ρ) B Φ Ψ ops rest Q) :
    SL c ρ B Φ Ψ ops (⟨some d, .binOp .neq xt x y yt, ty, ps, af, none⟩ :: rest) Q := r_neqb ht hx hy hb k

theorem r_store1 {b off s : Nat} {cs cs' : List Value} {bt : TypeId} (ht : tSz c.P t = some (false, s) := by exact tz rfl) (hs : s = 1 := by exact rfl) (hx : ev ρ x = some (.pointer (some ⟨b, off, none⟩)) := by exact rfl) (hy : ev ρ y = some v := by exact rfl)
    (h1 : v.oneCell' = true := by first | exact rfl | assumption) (hB : Upd B (.box b cs bt) (.box b cs' bt) B' := by iterate 24 (first | exact .hd | apply Upd.tl | skip)) (hl : Nat.blt off cs.length = true := by exact rfl) (hcs : cs.set off v = cs' := by exact rfl)
    (k : SL c ρ B' Φ Ψ ops rest Q) : SL c ρ B Φ Ψ ops (⟨none, .store t x y, ty, ps, af, none⟩ :: rest) Q := r_store_one ht hs hx hy h1 (by simpa using hl) hcs hB k

theorem r_ext {l : List Value} {i : Nat} (hx : ev ρ x = some (.tuple l.toArray) := by exact rfl) (hi : l[i]? = some v := by exact rfl) (hb : Nat.blt d c.nt = true := by exact rfl) (k : SL c ((d, v) :: ρ) B Φ Ψ ops rest Q) :
    SL c ρ B Φ Ψ ops (⟨some d, .extract x i, ty, ps, af, none⟩ :: rest) Q := r_extract hx (by simpa using hi) hb k

/-- A slice that is nowhere is empty. -/
theorem f_nowhere {cs : List Value} (hm : Res.mem none cs ∈ Φ) (k : cs = [] → SL c ρ B Φ Ψ ops rest Q) : SL c ρ B Φ Ψ ops rest Q := fun a w hs => by
  obtain ⟨V, U, M, m⟩ := hs.mem
  refine k ?_ a w hs
  cases cs with
  | nil => rfl
  | cons v r => obtain ⟨ad, h, _⟩ := m.phi _ hm 0 v rfl; cases h
theorem w_nowhere {cs : List Value} {code : Code} (hm : Res.mem none cs ∈ Φ) (k : cs = [] → SW c ρ B Φ Ψ code Q) : SW c ρ B Φ Ψ code Q :=
  fun a w hs => f_nowhere (ops := #[]) (rest := []) (Q := fun _ a w => code.wpIn (Fr c.r) 0 c.P Q a w) hm (fun h a w hs => k h a w hs) a w hs

theorem sp_nowhere {cs : List Value} (hm : Res.mem none cs ∈ Φ) (k : cs = [] → SP c ρ B Φ Ψ ex Q) : SP c ρ B Φ Ψ ex Q :=
  fun a w hs => f_nowhere (ops := #[]) (rest := []) (Q := fun _ a w => Q ex a w) hm (fun h a w hs => k h a w hs) a w hs
theorem sp_nil (e sz : Nat) (k : SP c ρ (.row (.slice none 0 0) 0 [] e sz :: B) Φ Ψ ex Q) : SP c ρ B Φ Ψ ex Q := sp_of_sl (fun h => o_nil e sz h) k
theorem bv_nil {xs : List UInt8} (h : bv xs = []) : xs = [] := List.map_eq_nil_iff.1 h

/-- 'append(s, x...)' of bytes. -/
theorem r_appendB {xs : List UInt8} {s : BS} {at1 : TypeId} (ht : tSl c.P at1 = some (e, 1, 1)) (hz : tZ c.P e = some (.int .u8 0)) (hx : ev ρ x = some v) (hy : ev ρ y = some s.v) (hm : s.res ∈ Φ) (h : xs.length + s.xs.length ≤ 140737488355328) (hb : Nat.blt d c.nt = true)
    (k : ∀ v', v'.cells = #[v'] → v'.oneCell' = true → SL c ((d, v') :: ρ) (.row v' (xs ++ s.xs).length (bv (xs ++ s.xs)) e 1 :: B) Φ Ψ ops rest Q) :
    SL c ρ (.row v xs.length (bv xs) e 1 :: B) Φ Ψ ops (⟨some d, .call ⟨.builtin .append, #[x, y], #[at1, at1]⟩, ty, ps, af, none⟩ :: rest) Q :=
  r_append (n := xs.length) (mm := s.xs.length) (news := bv s.xs) ht hz rfl rfl hx hy hm (by simp [bv]) (bv_one _) (by omega) (by omega) hb (by
    intro v' h1 h2
    have := k v' h1 h2
    rw [bv_append, List.length_append] at this
    exact this)

/-- A row of bytes changes no more. -/
theorem o_rowB {xs : List UInt8} (k : ∀ s : BS, s.ok → s.xs = xs → v = s.v → SL c ρ B (s.res :: Φ) Ψ ops rest Q) : SL c ρ (.row v xs.length (bv xs) e 1 :: B) Φ Ψ ops rest Q :=
  o_row (by
    rintro ba cap rfl h1 h2 h3
    exact k ⟨ba, cap, xs⟩ ⟨h1, h2⟩ rfl rfl)
theorem wo_rowB {xs : List UInt8} {code : Code} (k : ∀ s : BS, s.ok → s.xs = xs → v = s.v → SW c ρ B (s.res :: Φ) Ψ code Q) : SW c ρ (.row v xs.length (bv xs) e 1 :: B) Φ Ψ code Q :=
  wo_row (by
    rintro ba cap rfl h1 h2 h3
    exact k ⟨ba, cap, xs⟩ ⟨h1, h2⟩ rfl rfl)
theorem sp_rowB {xs : List UInt8} (k : ∀ s : BS, s.ok → s.xs = xs → v = s.v → SP c ρ B (s.res :: Φ) Ψ ex Q) : SP c ρ (.row v xs.length (bv xs) e 1 :: B) Φ Ψ ex Q :=
  sp_row (by
    rintro ba cap rfl h1 h2 h3
    exact k ⟨ba, cap, xs⟩ ⟨h1, h2⟩ rfl rfl)

/-- '[]byte{..}': a row of one's own. -/
theorem r_litB {len : Nat} {xs : List Operand} {bs : List UInt8} (ht : tSl c.P t = some (e, 1, by')) (hz : tZ c.P e = some (.int .u8 0)) (hx : evs ρ xs = some (bv bs)) (hlen : bs.length = len) (hsm : Nat.ble len 16777216 = true)
    {parts : List (Nat × Operand)} (hp : parts = (xs.zipIdx 0).map fun p => (p.2, p.1)) (hb : Nat.blt d c.nt = true)
    (k : ∀ v, v.cells = #[v] → v.oneCell' = true → SL c ((d, v) :: ρ) (.row v bs.length (bv bs) e 1 :: B) Φ Ψ ops rest Q) :
    SL c ρ B Φ Ψ ops (⟨some d, .buildSlice t len parts.toArray, ty, ps, af, none⟩ :: rest) Q := by
  have hl : len ≤ 16777216 := by simpa using hsm
  refine r_lit (cells := bv bs) ht hz hx (by rw [bv_len]; exact hlen) (fun v hv => ?_) (by omega) (by omega) hp ?_ hb (fun b => ?_)
  · obtain ⟨y, _, rfl⟩ := List.mem_map.1 hv; rfl
  · clear hx hlen k
    induction bs with
    | nil => rfl
    | cons y l ih => simp only [bv, List.map_cons, List.flatMap_cons] at ih ⊢; rw [ih]; rfl
  · have := k (.slice (some ⟨b, 0, none⟩) len len) rfl rfl
    rw [hlen] at this
    exact this

/-- 's[lo:hi]' of bytes. -/
theorem r_cutB {s : BS} {lo hi : Option Operand} {l h : Nat} (ht : tSl c.P t = some (e, 1, by')) (hx : ev ρ x = some s.v) (hm : s.res ∈ Φ) (hok : s.ok)
    (hlo : match lo with | none => l = 0 | some o => ∃ k, ev ρ o = some (.int k l)) (hhi : match hi with | none => h = s.xs.length | some o => ∃ k, ev ρ o = some (.int k h)) (hlh : l ≤ h) (hhn : h ≤ s.xs.length)
    (hb : Nat.blt d c.nt = true) (k : ∀ s' : BS, s'.ok → s'.xs = (s.xs.drop l).take (h - l) → SL c ((d, s'.v) :: ρ) B (s'.res :: Φ) Ψ ops rest Q) :
    SL c ρ B Φ Ψ ops (⟨some d, .slice t x lo hi none, ty, ps, af, none⟩ :: rest) Q :=
  r_cut (cs := bv s.xs) ht hx hm hlo hhi hlh hhn hok.1 hb (by
    have hl : ((s.xs.drop l).take (h - l)).length = h - l := by simp; omega
    have := k ⟨cutBase s.ba l s.cap 1, s.cap - l, (s.xs.drop l).take (h - l)⟩ ⟨by rw [hl]; have := hok.1; show h - l ≤ s.cap - l; omega, by have := hok.2; show s.cap - l ≤ maxLen; omega⟩ rfl
    unfold BS.v BS.res at this
    simp only [hl] at this
    rw [bv_cut, Nat.mul_one, Nat.mul_one]
    exact this)
end
end Go.Proofs.YtjahiohlekdhoaaDoor

namespace Go.Proofs.YtjahiohlekdhoaaDoor
open Go
section
variable {c : Ctx} {ρ : List (Nat × Value)} {B : List Own} {Φ : List Res} {Ψ : List JR} {ty t : Nat} {x y z : Operand} {v u : Value} {xt yt : TypeId} {m n : Int} {kk : IntKind} {e sz by' : Nat} {ba : Option Addr} {cs : List Value}

theorem q_move (hx : ev ρ x = some v := by exact rfl) : Qt c ρ B Φ Ψ (.move x) ty v := fun a w hs d ps af g => by simp [execOp, hs.ev hx]
theorem q_assign (hx : ev ρ x = some v := by exact rfl) : Qt c ρ B Φ Ψ (.assign x) ty v := fun a w hs d ps af g => by simp [execOp, hs.ev hx]
theorem q_pick_t (hx : ev ρ x = some (.bool true) := by exact rfl) (hy : ev ρ y = some v := by exact rfl) : Qt c ρ B Φ Ψ (.pick x y z) ty v := fun a w hs d ps af g => by simp [execOp, hs.ev hx, hs.ev hy, asBool]
theorem q_pick_f (hx : ev ρ x = some (.bool false) := by exact rfl) (hz : ev ρ z = some v := by exact rfl) : Qt c ρ B Φ Ψ (.pick x y z) ty v := fun a w hs d ps af g => by simp [execOp, hs.ev hx, hs.ev hz, asBool]
theorem q_extract {vs : Array Value} {i : Nat} (hx : ev ρ x = some (.tuple vs)) (hi : vs[i]? = some v) : Qt c ρ B Φ Ψ (.extract x i) ty v := fun a w hs d ps af g => by simp [execOp, hs.ev hx, Instr.extract, hi]
theorem q_ext {l : List Value} {i : Nat} (hx : ev ρ x = some (.tuple l.toArray) := by exact rfl) (hi : l[i]? = some v := by exact rfl) : Qt c ρ B Φ Ψ (.extract x i) ty v := q_extract hx (by simpa using hi)
theorem q_not {p : Bool} (hx : ev ρ x = some (.bool p) := by exact rfl) : Qt c ρ B Φ Ψ (.unOp .not xt x) ty (.bool (!p)) := fun a w hs d ps af g => by simp [execOp, hs.ev hx, Op.unary]
theorem q_bin {op : BinOp} (hx : ev ρ x = some u) (hy : ev ρ y = some v) {r : Value} (hrun : ∀ w, ((do eqGuard op xt x y u v; binOp op xt u v) : Sem Value).run c.P w = .ok r w) : Qt c ρ B Φ Ψ (.binOp op xt x y yt) ty r := fun a w hs d ps af g => by
  have h := hrun w
  simp only [Sem.run_bind] at h
  simp only [execOp, hs.ev hx, hs.ev hy, Sem.run_bind, h, Result.andThen_ok, Sem.run_pure]
theorem q_lss (hx : ev ρ x = some (.int kk m) := by exact rfl) (hy : ev ρ y = some (.int kk n) := by exact rfl) : Qt c ρ B Φ Ψ (.binOp .lss xt x y yt) ty (.bool (decide (m < n))) := q_bin hx hy (fun w => by simp [eqGuard, binOp, Op.intCmp])
theorem q_leq (hx : ev ρ x = some (.int kk m) := by exact rfl) (hy : ev ρ y = some (.int kk n) := by exact rfl) : Qt c ρ B Φ Ψ (.binOp .leq xt x y yt) ty (.bool (decide (m ≤ n))) := q_bin hx hy (fun w => by simp [eqGuard, binOp, Op.intCmp])
theorem q_gtr (hx : ev ρ x = some (.int kk m) := by exact rfl) (hy : ev ρ y = some (.int kk n) := by exact rfl) : Qt c ρ B Φ Ψ (.binOp .gtr xt x y yt) ty (.bool (decide (n < m))) := q_bin hx hy (fun w => by simp [eqGuard, binOp, Op.intCmp])
theorem q_geq (hx : ev ρ x = some (.int kk m) := by exact rfl) (hy : ev ρ y = some (.int kk n) := by exact rfl) : Qt c ρ B Φ Ψ (.binOp .geq xt x y yt) ty (.bool (decide (n ≤ m))) := q_bin hx hy (fun w => by simp [eqGuard, binOp, Op.intCmp])
theorem q_eql (hx : ev ρ x = some (.int kk m) := by exact rfl) (hy : ev ρ y = some (.int kk n) := by exact rfl) : Qt c ρ B Φ Ψ (.binOp .eql xt x y yt) ty (.bool (decide (m = n))) := q_bin hx hy (fun w => by
  have e : (m == n) = decide (m = n) := by by_cases h : m = n <;> simp [h]
  simp [eqGuard, binOp, Op.intCmp, e])
theorem q_neq (hx : ev ρ x = some (.int kk m) := by exact rfl) (hy : ev ρ y = some (.int kk n) := by exact rfl) : Qt c ρ B Φ Ψ (.binOp .neq xt x y yt) ty (.bool (decide (m ≠ n))) := q_bin hx hy (fun w => by
  have e : (m != n) = decide (m ≠ n) := by by_cases h : m = n <;> simp [h]
  simp [eqGuard, binOp, Op.intCmp, e])
theorem q_add64 (hx : ev ρ x = some (.int .i64 m) := by exact rfl) (hy : ev ρ y = some (.int .i64 n) := by exact rfl) (h1 : -9223372036854775808 ≤ m + n := by omega) (h2 : m + n ≤ 9223372036854775807 := by omega) : Qt c ρ B Φ Ψ (.binOp .add xt x y yt) ty (.int .i64 (m + n)) := q_bin hx hy (fun w => by simp [eqGuard, binOp, Op.intArith, wrap_in h1 h2])
theorem q_sub64 (hx : ev ρ x = some (.int .i64 m) := by exact rfl) (hy : ev ρ y = some (.int .i64 n) := by exact rfl) (h1 : -9223372036854775808 ≤ m - n := by omega) (h2 : m - n ≤ 9223372036854775807 := by omega) : Qt c ρ B Φ Ψ (.binOp .sub xt x y yt) ty (.int .i64 (m - n)) := q_bin hx hy (fun w => by simp [eqGuard, binOp, Op.intArith, wrap_in h1 h2])
theorem q_cv {st dt : TypeId} {k' : IntKind} {r : Int} (ht : tInt c.P dt = some kk) (hs' : tInt c.P st = some k') (hx : ev ρ x = some (.int k' m)) (he : kk.wrap m = r) : Qt c ρ B Φ Ψ (.convert st dt x) ty (.int kk r) := fun a w hs d ps af g => by
  have hk : c.P.underlying dt = some (.int kk) := by
    unfold tInt at ht
    split at ht
    · rename_i h; cases ht; exact h
    · cases ht
  have hk' : c.P.underlying st = some (.int k') := by
    unfold tInt at hs'
    split at hs'
    · rename_i h; cases hs'; exact h
    · cases hs'
  simp only [execOp, hs.ev hx, convert, Sem.run_bind, run_underlying hk' w, Result.andThen_ok, run_underlying hk w]
  simp [Conv.intToInt, he]
theorem q_cv_64_8 {a : UInt64} {st dt : TypeId} (ht : tInt c.P dt = some .u8 := by exact ti rfl) (hs' : tInt c.P st = some .u64 := by exact ti rfl) (hx : ev ρ x = some (v64 a) := by exact rfl) : Qt c ρ B Φ Ψ (.convert st dt x) ty (v8 a.toUInt8) := q_cv ht hs' hx (cv_64_8 a)
theorem q_cv_64_16 {a : UInt64} {st dt : TypeId} (ht : tInt c.P dt = some .u16 := by exact ti rfl) (hs' : tInt c.P st = some .u64 := by exact ti rfl) (hx : ev ρ x = some (v64 a) := by exact rfl) : Qt c ρ B Φ Ψ (.convert st dt x) ty (v16 a.toUInt16) := q_cv ht hs' hx (cv_64_16 a)
theorem q_cv_64_32 {a : UInt64} {st dt : TypeId} (ht : tInt c.P dt = some .u32 := by exact ti rfl) (hs' : tInt c.P st = some .u64 := by exact ti rfl) (hx : ev ρ x = some (v64 a) := by exact rfl) : Qt c ρ B Φ Ψ (.convert st dt x) ty (v32 a.toUInt32) := q_cv ht hs' hx (cv_64_32 a)
theorem q_cv_8_64 {a : UInt8} {st dt : TypeId} (ht : tInt c.P dt = some .u64 := by exact ti rfl) (hs' : tInt c.P st = some .u8 := by exact ti rfl) (hx : ev ρ x = some (v8 a) := by exact rfl) : Qt c ρ B Φ Ψ (.convert st dt x) ty (v64 a.toUInt64) := q_cv ht hs' hx (cv_8_64 a)
theorem q_cv_8_i {a : UInt8} {st dt : TypeId} (ht : tInt c.P dt = some .i64 := by exact ti rfl) (hs' : tInt c.P st = some .u8 := by exact ti rfl) (hx : ev ρ x = some (v8 a) := by exact rfl) : Qt c ρ B Φ Ψ (.convert st dt x) ty (vi (a.toNat : Int)) := q_cv ht hs' hx (cv_8_i a)

theorem q_len {cap n : Nat} {at' : Nat} (ht : tSl c.P at' = some (e, sz, by') := by exact tl rfl) (hx : ev ρ x = some (.slice ba n cap) := by exact rfl) : Qt c ρ B Φ Ψ (.call ⟨.builtin .len, #[x], #[at']⟩) ty (.int .i64 n) := fun a w hs d ps af g => by
  obtain ⟨hu, _⟩ := tSl_inv ht
  simp [execOp, resolve, invoke, builtin, hs.ev hx, Builtin.len_, run_underlying hu, goInt]

theorem q_load_one {b off s : Nat} {bt : TypeId} (ht : tSz c.P t = some (false, s) := by exact tz rfl) (hx : ev ρ x = some (.pointer (some ⟨b, off, none⟩)) := by exact rfl) (hB : Own.box b cs bt ∈ B := by iterate 24 (first | exact .head _ | apply List.Mem.tail | skip)) (hv : cs[off]? = some v := by exact rfl) : Qt c ρ B Φ Ψ (.load t x) ty v := fun a w hs d ps af g => by
  obtain ⟨V, U, M, m⟩ := hs.mem
  simp [execOp, hs.ev hx, Instr.loadAt, Instr.sureAddr, run_load_box_one ht (m.sep.holds _ hB) hv]
theorem q_load_agg {b off s : Nat} {vs : List Value} {bt : TypeId} (ht : tSz c.P t = some (true, s)) (hx : ev ρ x = some (.pointer (some ⟨b, off, none⟩))) (hB : Own.box b cs bt ∈ B) (hv : (cs.drop off).take s = vs) (hl : vs.length = s) : Qt c ρ B Φ Ψ (.load t x) ty (.agg vs.toArray) := fun a w hs d ps af g => by
  obtain ⟨V, U, M, m⟩ := hs.mem
  simp [execOp, hs.ev hx, Instr.loadAt, Instr.sureAddr, run_load_box_agg ht (m.sep.holds _ hB) hv hl]
theorem q_load_all {b s : Nat} {bt : TypeId} (ht : tSz c.P t = some (true, s) := by exact tz rfl) (hx : ev ρ x = some (.pointer (some ⟨b, 0, none⟩)) := by exact rfl) (hB : Own.box b cs bt ∈ B := by iterate 24 (first | exact .head _ | apply List.Mem.tail | skip)) (hl : cs.length = s := by exact rfl) : Qt c ρ B Φ Ψ (.load t x) ty (.agg cs.toArray) :=
  q_load_agg ht hx hB (by rw [List.drop_zero]; exact List.take_of_length_le (Nat.le_of_eq hl)) hl
theorem q_load_mem1 {o s : Nat} (ht : tSz c.P t = some (false, s)) (hx : ev ρ x = some (pAt ba o)) (hm : Res.mem ba cs ∈ Φ) (hv : cs[o]? = some v) : Qt c ρ B Φ Ψ (.load t x) ty v := fun a w hs d ps af g => by
  obtain ⟨V, U, M, ms⟩ := hs.mem
  obtain ⟨ad, rfl, _, hc⟩ := ms.phi _ hm _ _ hv
  simp [execOp, hs.ev hx, pAt, Instr.loadAt, Instr.sureAddr, run_loadVar_one ht hc]
theorem q_load_fr1 {b o s : Nat} (ht : tSz c.P t = some (false, s) := by exact tz rfl) (hx : ev ρ x = some (.pointer (some ⟨b, o, none⟩)) := by exact rfl) (hm : Res.mem (some ⟨b, 0, none⟩) cs ∈ Φ := by iterate 24 (first | exact .head _ | apply List.Mem.tail | skip)) (hv : cs[o]? = some v := by exact rfl) : Qt c ρ B Φ Ψ (.load t x) ty v :=
  q_load_mem1 (ba := some ⟨b, 0, none⟩) ht (by rw [hx, pAt, Option.map_some, addr_add, Nat.zero_add]) hm hv
theorem q_load_mem {o s : Nat} {vs : List Value} (ht : tSz c.P t = some (true, s)) (hx : ev ρ x = some (pAt ba o)) (hm : Res.mem ba cs ∈ Φ) (hv : part' cs o s = vs) (hn : Nat.blt 0 s = true) (hl : vs.length = s) : Qt c ρ B Φ Ψ (.load t x) ty (.agg vs.toArray) := fun a w hs d ps af g => by
  obtain ⟨V, U, M, ms⟩ := hs.mem
  obtain ⟨ad, rfl, hc⟩ := mem_cells (ms.phi _ hm) hv hn hl
  simp [execOp, hs.ev hx, pAt, Instr.loadAt, Instr.sureAddr, run_loadVar_agg ht hl hc]
theorem q_load_fr {b o s : Nat} {vs : List Value} (ht : tSz c.P t = some (true, s) := by exact tz rfl) (hx : ev ρ x = some (.pointer (some ⟨b, o, none⟩)) := by exact rfl) (hm : Res.mem (some ⟨b, 0, none⟩) cs ∈ Φ := by iterate 24 (first | exact .head _ | apply List.Mem.tail | skip)) (hv : part' cs o s = vs := by exact rfl) (hn : Nat.blt 0 s = true := by exact rfl) (hl : vs.length = s := by exact rfl) : Qt c ρ B Φ Ψ (.load t x) ty (.agg vs.toArray) :=
  q_load_mem (ba := some ⟨b, 0, none⟩) ht (by rw [hx, pAt, Option.map_some, addr_add, Nat.zero_add]) hm hv hn hl
theorem q_fieldAddr {b off f s : Nat} {ag : Bool} {i : Nat} (ht : tFd c.P t i = some (f, ag, s) := by exact tf rfl rfl) (hs0 : Nat.beq s 0 = false := by exact rfl) (hx : ev ρ x = some (.pointer (some ⟨b, off, none⟩)) := by exact rfl) : Qt c ρ B Φ Ψ (.fieldAddr t x i) ty (.pointer (some ⟨b, off + f, none⟩)) := fun a w hs d ps af g => by
  unfold tFd at ht
  split at ht
  · rename_i fs hu
    split at ht
    · rename_i fl hf
      split at ht
      · rename_i ag' s' hsz
        cases ht
        have hne : ¬ s = 0 := ne_of_beq hs0
        simp [execOp, hs.ev hx, Instr.fieldAt, run_underlying hu, hf, Instr.sureAddr, fieldPlace, run_sizeOf hsz, hne, addr_add]
      · cases ht
    · cases ht
  · cases ht
theorem q_fieldAddr_mem {o f s i : Nat} {ag : Bool} (ht : tFd c.P t i = some (f, ag, s)) (hs0 : Nat.beq s 0 = false) (hx : ev ρ x = some (pAt ba o)) (hm : Res.mem ba cs ∈ Φ) (hl : o < cs.length) : Qt c ρ B Φ Ψ (.fieldAddr t x i) ty (pAt ba (o + f)) := fun a w hs d ps af g => by
  obtain ⟨V, U, M, ms⟩ := hs.mem
  obtain ⟨ad, rfl, _, _⟩ := ms.phi _ hm o _ (List.getElem?_eq_getElem hl)
  unfold tFd at ht
  split at ht
  · rename_i fs hu
    split at ht
    · rename_i fl hf
      split at ht
      · rename_i ag' s' hsz
        cases ht
        have hne : ¬ s = 0 := ne_of_beq hs0
        simp [execOp, hs.ev hx, Instr.fieldAt, run_underlying hu, hf, Instr.sureAddr, fieldPlace, run_sizeOf hsz, hne, pAt, add_add]
      · cases ht
    · cases ht
  · cases ht
theorem q_idx {i n cap : Nat} (ht : tSl c.P t = some (e, sz, by')) (hx : ev ρ x = some (.slice ba n cap)) (hy : ev ρ y = some (.int kk m)) (h0 : 0 ≤ m) (h1 : m < n) (hm : Res.mem ba cs ∈ Φ) (hl : n * sz ≤ cs.length) (hz : Nat.beq sz 0 = false) (hi : m.toNat = i) : Qt c ρ B Φ Ψ (.indexAddr t x y) ty (pAt ba (i * sz)) := fun a w hs d ps af g => by
  obtain ⟨hu, ii, hii, hsz, _⟩ := tSl_inv ht
  obtain ⟨V, U, M, ms⟩ := hs.mem
  have hsz0 : ¬ sz = 0 := ne_of_beq hz
  have hlt : 0 < cs.length := by
    have : 1 * 1 ≤ n * sz := Nat.mul_le_mul (by omega) (by omega)
    omega
  obtain ⟨ad, rfl, _, _⟩ := ms.phi _ hm 0 _ (List.getElem?_eq_getElem hlt)
  subst hi
  simp [execOp, hs.ev hx, hs.ev hy, Instr.indexAt, asIntOf, run_underlying hu, h0, h1, sizeOf, typeInfo, hii, hsz, pAt]
theorem q_idx_arr {b off len i : Nat} (ht : tAr c.P t = some (len, e, sz) := by exact ta rfl) (hx : ev ρ x = some (.pointer (some ⟨b, off, none⟩)) := by exact rfl) (hy : ev ρ y = some (.int kk m) := by exact rfl) (h0 : 0 ≤ m := by omega) (h1 : m < len := by omega) (hi : m.toNat = i := by first | exact Int.toNat_natCast _ | exact rfl) : Qt c ρ B Φ Ψ (.indexAddr t x y) ty (.pointer (some ⟨b, off + i * sz, none⟩)) := fun a w hs d ps af g => by
  obtain ⟨hu, ii, hii, hsz⟩ := tAr_inv ht
  subst hi
  simp [execOp, hs.ev hx, hs.ev hy, Instr.indexAt, Instr.sureAddr, asIntOf, run_underlying hu, h0, h1, sizeOf, typeInfo, hii, hsz, addr_add]

/-- A cut: the value alone; the fact is laid ahead, by f_cutB. -/
def cutB (s : BS) (l h : Nat) : BS := ⟨cutBase s.ba l s.cap 1, s.cap - l, (s.xs.drop l).take (h - l)⟩
theorem cutB_ok {s : BS} {l h : Nat} (hok : s.ok) (hhn : h ≤ s.xs.length) : (cutB s l h).ok := by
  have hl : ((s.xs.drop l).take (h - l)).length = h - l := by simp; omega
  exact ⟨by have := hok.1; show ((s.xs.drop l).take (h - l)).length ≤ s.cap - l; omega, by have := hok.2; show s.cap - l ≤ maxLen; omega⟩
theorem cutB_res {s : BS} {l h : Nat} {V : Av} {w : World} (hm : s.res.p V w) (hok : s.ok) (hlh : l ≤ h) (hhn : h ≤ s.xs.length) : (cutB s l h).res.p V w := by
  have h1 := mem_cut (sz := 1) (m := s.cap) hm hlh (Nat.le_trans hhn hok.1)
  rw [bv_cut, Nat.mul_one, Nat.mul_one] at h1
  exact h1
theorem q_cutB {s : BS} {lo hi : Option Operand} {l h : Nat} (ht : tSl c.P t = some (e, 1, by')) (hx : ev ρ x = some s.v) (hok : s.ok)
    (hlo : match lo with | none => l = 0 | some o => ∃ k, ev ρ o = some (.int k l)) (hhi : match hi with | none => h = s.xs.length | some o => ∃ k, ev ρ o = some (.int k h)) (hlh : l ≤ h) (hhn : h ≤ s.xs.length) : Qt c ρ B Φ Ψ (.slice t x lo hi none) ty (cutB s l h).v := fun a w hs d ps af g => by
    have hl : ((s.xs.drop l).take (h - l)).length = h - l := by simp; omega
    have hv : (cutB s l h).v = .slice (cutBase s.ba l s.cap 1) (h - l) (s.cap - l) := by unfold cutB BS.v; simp only [hl]
    rw [hv]
    obtain ⟨hu, ii, hii, hsz, _⟩ := tSl_inv ht
    have hcap : h ≤ s.cap := Nat.le_trans hhn hok.1
    cases lo with
    | none =>
      simp only at hlo
      subst hlo
      cases hi with
      | none =>
        simp only at hhi
        subst hhi
        simp [execOp, hs.ev hx, BS.v, Instr.sliceAt, Instr.slice, run_underlying hu, Instr.sliceBounds, sizeOf, typeInfo, hii, cutBase]
      | some o2 =>
        obtain ⟨k2, h2⟩ := hhi
        simp [execOp, hs.ev hx, BS.v, hs.ev h2, Instr.sliceAt, Instr.slice, run_underlying hu, Instr.sliceBounds, Instr.sliceBound, asIntOf, sizeOf, typeInfo, hii, cutBase, hcap]
    | some o1 =>
      obtain ⟨k1, h1'⟩ := hlo
      cases hi with
      | none =>
        simp only at hhi
        subst hhi
        simp [execOp, hs.ev hx, BS.v, hs.ev h1', Instr.sliceAt, Instr.slice, run_underlying hu, Instr.sliceBounds, Instr.sliceBound, asIntOf, sizeOf, typeInfo, hii, hsz, cutBase, hlh]
      | some o2 =>
        obtain ⟨k2, h2⟩ := hhi
        simp [execOp, hs.ev hx, BS.v, hs.ev h1', hs.ev h2, Instr.sliceAt, Instr.slice, run_underlying hu, Instr.sliceBounds, Instr.sliceBound, asIntOf, sizeOf, typeInfo, hii, hsz, cutBase, hlh, hcap]
theorem q_cut_arr {lo hi : Option Operand} {b l h len : Nat} (ht : tAr c.P t = some (len, e, sz)) (hx : ev ρ x = some (.pointer (some ⟨b, 0, none⟩)))
    (hlo : match lo with | none => l = 0 | some o => ∃ k, ev ρ o = some (.int k l)) (hhi : match hi with | none => h = len | some o => ∃ k, ev ρ o = some (.int k h)) (hlh : l ≤ h) (hhn : h ≤ len) (hll : l < len) : Qt c ρ B Φ Ψ (.slice t x lo hi none) ty (.slice (some ⟨b, l * sz, none⟩) (h - l) (len - l)) := fun a w hs d ps af g => by
    obtain ⟨hu, ii, hii, hsz⟩ := tAr_inv ht
    have hne : ¬ len = l := by omega
    have hne0 : ¬ len = 0 := by omega
    cases lo with
    | none =>
      simp only at hlo
      subst hlo
      cases hi with
      | none =>
        simp only at hhi
        subst hhi
        simp [execOp, hs.ev hx, Instr.sliceAt, Instr.sureAddr, run_underlying hu, Instr.sliceBounds, sizeOf, typeInfo, hii, addr_add]
      | some o2 =>
        obtain ⟨k2, h2⟩ := hhi
        simp [execOp, hs.ev hx, hs.ev h2, Instr.sliceAt, Instr.sureAddr, run_underlying hu, Instr.sliceBounds, Instr.sliceBound, asIntOf, sizeOf, typeInfo, hii, addr_add, hhn]
    | some o1 =>
      obtain ⟨k1, h1'⟩ := hlo
      cases hi with
      | none =>
        simp only at hhi
        subst hhi
        simp [execOp, hs.ev hx, hs.ev h1', Instr.sliceAt, Instr.sureAddr, run_underlying hu, Instr.sliceBounds, Instr.sliceBound, asIntOf, sizeOf, typeInfo, hii, hsz, addr_add, hne, hlh]
      | some o2 =>
        obtain ⟨k2, h2⟩ := hhi
        simp [execOp, hs.ev hx, hs.ev h1', hs.ev h2, Instr.sliceAt, Instr.sureAddr, run_underlying hu, Instr.sliceBounds, Instr.sliceBound, asIntOf, sizeOf, typeInfo, hii, hsz, addr_add, hne, hlh, hhn]
end
section
variable {c : Ctx} {ρ : List (Nat × Value)} {B : List Own} {Φ : List Res} {Ψ : List JR} {Q : Post} {ops : Array Oper} {todo : List Nat} {I : List Nat → World → Prop}
/-- A fact laid into a state of such a region. -/
theorem ra_have {φ : Res} (h : ∀ V w, (∀ ψ ∈ Φ, ψ.p V w) → φ.p V w) (k : RA c I ρ B (φ :: Φ) Ψ ops todo Q) : RA c I ρ B Φ Ψ ops todo Q := fun a w hs => by
  obtain ⟨V, U, M, m⟩ := hs.mem
  exact k a w ⟨hs.nt, hs.reg, hs.dfr, V, U, M, { m with phi := List.forall_mem_cons.2 ⟨h V w m.phi, m.phi⟩ }⟩
theorem w_have {φ : Res} {code : Code} (h : ∀ V w, (∀ ψ ∈ Φ, ψ.p V w) → φ.p V w) (k : SW c ρ B (φ :: Φ) Ψ code Q) : SW c ρ B Φ Ψ code Q := sl_to_sw (fun h' => f_have h h') k
/-- A slot's bool is parted. -/
theorem ra_part {t : Nat} {b : Bool} (hx : lk ρ t = some (.bool b)) (h1 : b = true → RA c I ((t, .bool true) :: ρ) B Φ Ψ ops todo Q) (h2 : b = false → RA c I ((t, .bool false) :: ρ) B Φ Ψ ops todo Q) : RA c I ρ B Φ Ψ ops todo Q := by
  cases b
  · exact fun a w hs => h2 rfl a w ⟨hs.nt, fun s u hu => by
      rw [lk_cons] at hu
      split at hu
      · rename_i e; subst e; cases hu; exact hs.reg _ _ hx
      · exact hs.reg s u hu, hs.dfr, hs.mem⟩
  · exact fun a w hs => h1 rfl a w ⟨hs.nt, fun s u hu => by
      rw [lk_cons] at hu
      split at hu
      · rename_i e; subst e; cases hu; exact hs.reg _ _ hx
      · exact hs.reg s u hu, hs.dfr, hs.mem⟩
end
end Go.Proofs.YtjahiohlekdhoaaDoor
