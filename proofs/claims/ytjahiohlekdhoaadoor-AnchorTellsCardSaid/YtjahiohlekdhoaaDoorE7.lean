/-
  The engine, part 7: 'for x := range seq { .. }' in a function's own body.
-/
import Derived.Test.YtjahiohlekdhoaaDoorE6
namespace Go.Proofs.YtjahiohlekdhoaaDoor
open Go

def stOf : Option Code → LoopState
  | none => .ready
  | some _ => .done
def recOf (fn : FuncId) (tmps : Array Value) (ps : Array Tmp) (assign body : Code) (mk : Nat) (st : LoopState) (j : Option Code) : Loop := { state := st, pending := j, fn, tmps, params := ps, assign, body, defers := mk }

/-- The loop's two blocks: its record, the block for the rounds' deferred calls. -/
def two (rec : LoopState → Option Code → Loop) (l mk : Nat) (st : LoopState) (j : Option Code) (B : List Own) : List Own := .obj l (.loop (rec st j)) :: .obj mk (.deferred (some [])) :: B

/-- What a loop holds between two rounds. -/
def JL (c : Ctx) (rec : LoopState → Option Code → Loop) (l mk : Nat) {σ ι : Type} (Bs : σ → ι → List Own) (Φs : σ → ι → List Res) (jmp : σ → Option Code) (s : σ) : JR where
  p M U w := ∃ (i : ι) (V : Av), (∀ b, U b → V b) ∧ (∀ b, c.X b → V b) ∧ (∀ b, M b → V b) ∧ (∀ b, M b → ¬ U b ∧ b < w.heap.size ∧ (c.K b ∨ c.w0.heap.size ≤ b) ∧ ¬ c.X b) ∧
    Sep (two rec l mk (stOf (jmp s)) (jmp s) (Bs s i)) w ∧ (∀ b, blks (two rec l mk (stOf (jmp s)) (jmp s) (Bs s i)) b → M b) ∧ (∀ φ ∈ Φs s i, φ.p V w) ∧ c.G.p V w ∧ c.w0.heap.size ≤ w.heap.size
  st := by
    rintro M U U' w w' hk ⟨i, V, h1, h2, h3, h4, h5, h6, h7, h8, h9⟩
    have kv : Kept V (fun b => V b ∨ U' b) w w' := ⟨hk.size, fun b hl hn => hk.same b hl fun h => hn (h1 b h), fun b hl h => h.elim id fun h => h1 b (hk.av b hl h)⟩
    refine ⟨i, fun b => V b ∨ U' b, fun b h => .inr h, fun b h => .inl (h2 b h), fun b h => .inl (h3 b h), fun b h => ?_, h5.keep fun b hb => hk.same b (h5.lt hb) (h4 b (h6 b hb)).1, h6, fun φ hφ => φ.st kv (h7 φ hφ), c.G.st kv h8, Nat.le_trans h9 hk.size⟩
    obtain ⟨a1, a2, a3, a4⟩ := h4 b h
    exact ⟨fun h' => a1 (hk.av b a2 h'), Nat.lt_of_lt_of_le a2 hk.size, a3, a4⟩

/-- The registers with a loop's variables laid in. -/
def pr : List Nat → List Value → List (Nat × Value) → List (Nat × Value)
  | p :: ps, v :: vs, ρ => pr ps vs ((p, v) :: ρ)
  | _, _, ρ => ρ

/-- What is asked where a round's assignments have ended: the round begins. -/
def AQ (c : Ctx) (l : Nat) (body : Code) (R : Post) : Post :=
  Exit.then (fun a₁ w₁ => ∃ w₂, (Instr.beginRound l).run c.P w₁ = .ok () w₂ ∧ body.wpIn (Fr (some l)) 0 c.P R a₁ w₂) (fun _ _ _ => False)

/-- What is asked at a round's end: the loop's state is s'. -/
def RQ (c cl : Ctx) (rec : LoopState → Option Code → Loop) (l mk : Nat) {σ ι : Type} (Bs : σ → ι → List Own) (Φs : σ → ι → List Res) (jmp : σ → Option Code) (s' : σ) (U : Av) : Post :=
  roundPost c.P l fun e w' => e = .returned (.bool (jmp s').isNone) ∧ ∃ M', (JL cl rec l mk Bs Φs jmp s').p M' U w' ∧ (∀ b, M' b → (c.K b ∨ c.w0.heap.size ≤ b) ∧ b < w'.heap.size) ∧ (c.w0.heap.size ≤ w'.heap.size ∧ Io c.w0 w') ∧ ∀ b, b < c.w0.heap.size → ¬ c.K b → w'.heap[b]? = c.w0.heap[b]?

section
variable {c cl : Ctx} {ρ : List (Nat × Value)} {B B' : List Own} {Φ : List Res} {l mk : Nat} {rec : LoopState → Option Code → Loop} {body : Code} {R : Post}

theorem putObj_same {w : World} {l : Nat} {o : Obj} (h : l < w.heap.size) : (w.putObj l o).heap[l]? = some o := World.putObj_heap_same h

theorem sp_asg {r : Loop} (hr : r.state = .ready) (hB : Upd B (.obj l (.loop r)) (.obj l (.loop { r with state := .busy })) B') (hc : c.r = some l) (k : SW c ρ B' Φ [] body R) : SP c ρ B Φ [] .normal (AQ c l body R) := fun a w hs => by
  obtain ⟨V, U, M, m⟩ := hs.mem
  have hl : w.heap[l]? = some (.loop r) := m.sep.holds _ hB.mem
  refine ⟨_, run_beginRound hl hr, ?_⟩
  have h := k a (w.putObj l (.loop { r with state := .busy })) (hs.mem' (hB.marks rfl) (m.turn hB rfl (putObj_same (Array.getElem?_eq_some_iff.1 hl).1) (by simp [World.putObj]) fun k hk => putObj_other fun e => hk (by rw [e]; rfl)))
  rw [hc] at h
  exact h

/-- The facts of a round's end: what is there becomes the loop's. -/
theorem round_end {σ ι : Type} {Bs : σ → ι → List Own} {Φs : σ → ι → List Res} {jmp : σ → Option Code} {s' : σ} {i' : ι} {U : Av} (hrec : ∀ st j, rec st j = { rec .busy none with state := st, pending := j }) (hsub : (two rec l mk .busy none (Bs s' i')).Sublist B) (hΦ : ∀ φ ∈ Φs s' i', φ ∈ Φ)
    (hG : cl.G = c.G) (hX : ∀ b, cl.X b → c.X b) (hU : ∀ b, U b → c.X b) (hK : ∀ b, c.K b → (cl.K b ∨ cl.w0.heap.size ≤ b) ∧ ¬ cl.X b) (hw0 : cl.w0.heap.size ≤ c.w0.heap.size) (hxl : ∀ b, cl.X b → b < cl.w0.heap.size) {a : Act} {w : World} (hs : St c ρ B Φ [] a w) :
    ∃ w', (Instr.endRound l (jmp s')).run c.P w = .ok (.bool (jmp s').isNone) w' ∧ ∃ M', (JL cl rec l mk Bs Φs jmp s').p M' U w' ∧ (∀ b, M' b → (c.K b ∨ c.w0.heap.size ≤ b) ∧ b < w'.heap.size) ∧ (c.w0.heap.size ≤ w'.heap.size ∧ Io c.w0 w') ∧ ∀ b, b < c.w0.heap.size → ¬ c.K b → ¬ c.Y b → w'.heap[b]? = c.w0.heap[b]? := by
  obtain ⟨V, U1, M, m⟩ := hs.mem
  have hin : ∀ o ∈ two rec l mk .busy none (Bs s' i'), o ∈ B := fun o ho => hsub.subset ho
  have hl : w.heap[l]? = some (.loop (rec .busy none)) := m.sep.holds _ (hin _ (.head _))
  have hlt := (Array.getElem?_eq_some_iff.1 hl).1
  have hbl : ∀ st j b, blks (two rec l mk st j (Bs s' i')) b → blks B b := fun st j b ⟨o, ho, e⟩ => by
    unfold two at ho
    cases ho with
    | head => exact ⟨_, hin _ (.head _), e⟩
    | tail _ ho => exact ⟨_, hin _ (.tail _ ho), e⟩
  have hE : ({ rec .busy none with state := if (jmp s').isNone then .ready else .done, pending := jmp s' } : Loop) = rec (stOf (jmp s')) (jmp s') := by
    rw [hrec (stOf (jmp s')) (jmp s')]; cases jmp s' <;> rfl
  have hrun := run_endRound (P := c.P) (jmp s') hl
  rw [hE] at hrun
  have hsep0 : Sep (two rec l mk .busy none (Bs s' i')) w := ⟨fun o ho => m.sep.holds o (hin o ho), m.sep.apart.sublist hsub⟩
  have hap := List.pairwise_cons.1 hsep0.apart
  have hsep : Sep (two rec l mk (stOf (jmp s')) (jmp s') (Bs s' i')) (w.putObj l (.loop (rec (stOf (jmp s')) (jmp s')))) := by
    refine ⟨fun o ho => ?_, List.pairwise_cons.2 ⟨fun o ho b h1 h2 => hap.1 o ho b h1 h2, hap.2⟩⟩
    cases ho with
    | head => exact putObj_same hlt
    | tail _ ho => exact Own.keep (hsep0.holds o (.tail _ ho)) fun b hb => putObj_other fun e => hap.1 o ho b (by rw [e]; rfl) hb
  have kv : Kept V V w (w.putObj l (.loop (rec (stOf (jmp s')) (jmp s')))) := ⟨by simp [World.putObj], fun b _ hn => putObj_other fun e => hn (m.vb b ⟨_, hin _ (.head _), by rw [e]; rfl⟩), fun b _ h => h⟩
  have hown : ∀ b, blks B b → (cl.K b ∨ cl.w0.heap.size ≤ b) ∧ ¬ cl.X b := fun b h => by
    rcases (m.own b h).1 with h' | h'
    · exact hK b h'
    · exact ⟨.inr (by omega), fun hx => by have := hxl b hx; omega⟩
  refine ⟨_, hrun, blks (two rec l mk (stOf (jmp s')) (jmp s') (Bs s' i')), ⟨i', V, fun b h => m.vx b (hU b h), fun b h => m.vx b (hX b h), fun b h => m.vb b (hbl _ _ b h), fun b h => ⟨fun h' => (m.own b (hbl _ _ b h)).2.1 (hU b h'), hsep.lt h, hown b (hbl _ _ b h)⟩, hsep, fun b h => h,
    fun φ hφ => φ.st kv (m.phi φ (hΦ φ hφ)), by rw [hG]; exact c.G.st kv m.g, by have := m.sz; simp [World.putObj]; omega⟩, fun b h => ⟨(m.own b (hbl _ _ b h)).1, hsep.lt h⟩, ⟨by have := m.sz; simpa [World.putObj] using this, m.io.trans ⟨rfl, rfl, rfl⟩⟩, fun b h1 h2 h3 => ?_⟩
  refine Eq.trans (putObj_other fun e => ?_) (m.frame b h1 h2 h3)
  rcases (m.own b ⟨_, hin _ (.head _), by rw [e]; rfl⟩).1 with h | h
  · exact h2 h
  · omega

/-- What ties a round's context to its loop's. -/
structure Tied (c cl : Ctx) (U : Av) : Prop where
  hG : cl.G = c.G
  hX : ∀ b, cl.X b → c.X b
  hU : ∀ b, U b → c.X b
  hK : ∀ b, c.K b → (cl.K b ∨ cl.w0.heap.size ≤ b) ∧ ¬ cl.X b
  hw0 : cl.w0.heap.size ≤ c.w0.heap.size
  hxl : ∀ b, cl.X b → b < cl.w0.heap.size
  hY : c.Y = NoAv
  hrec : True

section
variable {σ ι : Type} {Bs : σ → ι → List Own} {Φs : σ → ι → List Res} {jmp : σ → Option Code} {s' : σ} {i' : ι} {U : Av}
theorem sp_round (ht : Tied c cl U) (hrec : ∀ st j, rec st j = { rec .busy none with state := st, pending := j }) (hj : jmp s' = none) (hsub : (two rec l mk .busy none (Bs s' i')).Sublist B) (hΦ : ∀ φ ∈ Φs s' i', φ ∈ Φ) : SP c ρ B Φ [] .normal (RQ c cl rec l mk Bs Φs jmp s' U) := fun a w hs => by
  obtain ⟨w', h1, M', h2, h3, h4, h5⟩ := round_end (jmp := jmp) hrec hsub hΦ ht.hG ht.hX ht.hU ht.hK ht.hw0 ht.hxl hs
  rw [hj] at h1
  exact ⟨_, w', h1, by rw [hj], M', h2, h3, h4, fun b h6 h7 => h5 b h6 h7 (by rw [ht.hY]; exact fun h => h)⟩
theorem sp_round_ret (ht : Tied c cl U) (hrec : ∀ st j, rec st j = { rec .busy none with state := st, pending := j }) (hj : jmp s' = some .ret) (hsub : (two rec l mk .busy none (Bs s' i')).Sublist B) (hΦ : ∀ φ ∈ Φs s' i', φ ∈ Φ) : SP c ρ B Φ [] .ret (RQ c cl rec l mk Bs Φs jmp s' U) := fun a w hs => by
  obtain ⟨w', h1, M', h2, h3, h4, h5⟩ := round_end (jmp := jmp) hrec hsub hΦ ht.hG ht.hX ht.hU ht.hK ht.hw0 ht.hxl hs
  rw [hj] at h1
  exact ⟨_, w', h1, by rw [hj], M', h2, h3, h4, fun b h6 h7 => h5 b h6 h7 (by rw [ht.hY]; exact fun h => h)⟩
theorem sp_round_exit {i : Nat} (ht : Tied c cl U) (hrec : ∀ st j, rec st j = { rec .busy none with state := st, pending := j }) (hj : jmp s' = some (.exit i)) (hsub : (two rec l mk .busy none (Bs s' i')).Sublist B) (hΦ : ∀ φ ∈ Φs s' i', φ ∈ Φ) : SP c ρ B Φ [] (.exit i) (RQ c cl rec l mk Bs Φs jmp s' U) := fun a w hs => by
  obtain ⟨w', h1, M', h2, h3, h4, h5⟩ := round_end (jmp := jmp) hrec hsub hΦ ht.hG ht.hX ht.hU ht.hK ht.hw0 ht.hxl hs
  rw [hj] at h1
  exact ⟨_, w', h1, by rw [hj], M', h2, h3, h4, fun b h6 h7 => h5 b h6 h7 (by rw [ht.hY]; exact fun h => h)⟩
end
end

theorem pr_regs {c : Ctx} : ∀ (ps : List Nat) (vs : List Value) (ρ : List (Nat × Value)) (t : Array Value), (∀ p ∈ ps, p < t.size) → (∀ k v, lk ρ k = some v → t.getD k undef = v) →
    ∀ k v, lk (pr ps vs ρ) k = some v → ((ps.zip vs).foldl (fun t q => t.setIfInBounds q.1 q.2) t).getD k undef = v
  | [], vs, ρ, t, _, h => by cases vs <;> exact h
  | p :: ps, [], ρ, t, _, h => h
  | p :: ps, v :: vs, ρ, t, hp, h => by
    refine pr_regs (c := c) ps vs ((p, v) :: ρ) (t.setIfInBounds p v) (fun q hq => by simpa using hp q (.tail _ hq)) fun k u hk => ?_
    rw [lk_cons] at hk
    split at hk
    · rename_i e; subst e; cases hk
      have := hp p (.head _)
      simp [this]
    · rename_i e
      have := h k u hk
      simp only [Array.getD_eq_getD_getElem?] at this ⊢
      rw [Array.getElem?_setIfInBounds_ne e]; exact this

theorem size_foldl_set (l : List (Nat × Value)) (t : Array Value) : (l.foldl (fun t q => t.setIfInBounds q.1 q.2) t).size = t.size := by
  induction l generalizing t with
  | nil => rfl
  | cons q l ih => simp [ih]

section
variable {c : Ctx} {ρ : List (Nat × Value)} {Bp : List Own} {Φ Φp : List Res} {Q : Post}

/-- 'for .. := range g { .. }' in a function's own body. -/
theorem sw_range {σ ι α : Type} {gf : FuncId} {g : Operand} {caps : List Value} {ps : List Tmp} {assign body : Code} {E : α → List Value → Res} {L : List α}
    (hc : ICtr c.P c.G gf caps Bp Φp E L) (hr : c.r = none) (hg : ev ρ g = some (.func (.func gf) #[] caps.toArray))
    (Bs : σ → ι → List Own) (Φs : σ → ι → List Res) (jmp : σ → Option Code) (Y : σ → α → σ) (A : σ → α → Prop) (s0 : σ) (i0 : ι) (hA : Adm Y (fun s => (jmp s).isNone) A s0 L) (hj0 : jmp s0 = none) (hΦp : ∀ φ ∈ Φp, φ ∈ Φ) (hΦs : ∀ φ ∈ Φs s0 i0, φ ∈ Φ) (hmk : ∀ s i, marks (Bs s i) = marks (Bs s0 i0)) (hps : ∀ p ∈ ps, p < c.nt) (hE : ∀ x vs V w, (E x vs).p V w → vs.length = ps.length)
    (hbody : ∀ (l mk : Nat) (rec : LoopState → Option Code → Loop) (w : World) (X U K : Av) (s : σ) (i : ι) (x : α) (vs : List Value), (∀ st j, rec st j = { rec .busy none with state := st, pending := j }) → jmp s = none → A s x → Tied ⟨c.P, some l, c.nt, w, X, K, NoAv, c.G⟩ c U →
      SW ⟨c.P, some l, c.nt, w, X, K, NoAv, c.G⟩ (pr ps vs ρ) (two rec l mk .ready none (Bs s i)) (E x vs :: Φs s i) [] assign (AQ ⟨c.P, some l, c.nt, w, X, K, NoAv, c.G⟩ l body (RQ ⟨c.P, some l, c.nt, w, X, K, NoAv, c.G⟩ c rec l mk Bs Φs jmp (Y s x) U)))
    (hend : ∀ s' i' B' Φ' mk, over L σ Y (fun s => (jmp s).isNone) s0 s' B' Φ' → (jmp s' = none → SP c ρ (.mark mk :: (B' ++ Bs s' i')) (Φ' ++ Φs s' i') [] .normal Q) ∧ ∀ j, jmp s' = some j → SW c ρ (.mark mk :: (B' ++ Bs s' i')) (Φ' ++ Φs s' i') [] j Q) :
    SW c ρ (Bp ++ Bs s0 i0) Φ [] (.rangeFunc g ps.toArray assign body) Q := by
  intro a w hs
  obtain ⟨V, U0, M0, m⟩ := hs.mem
  rw [hr]
  refine wpIn_rangeFunc fun fn _ => ?_
  obtain ⟨rec, hrec⟩ : ∃ rec : LoopState → Option Code → Loop, rec = recOf fn a.tmps ps.toArray assign body w.heap.size := ⟨_, rfl⟩
  have hrecB : ∀ st j, rec st j = { rec .busy none with state := st, pending := j } := fun st j => by rw [hrec]; rfl
  obtain ⟨w1, hw1⟩ : ∃ w1, w1 = (w.alloc (.deferred (some []))).alloc (.loop (rec .ready none)) := ⟨_, rfl⟩
  have hsz1 : w1.heap.size = w.heap.size + 2 := by rw [hw1]; simp
  have hold : ∀ b, b < w.heap.size → w1.heap[b]? = w.heap[b]? := fun b hb => by rw [hw1]; exact (heap_alloc_old _ _ _ (by simp; omega)).trans (heap_alloc_old _ _ _ hb)
  have hL1 : w1.heap[w.heap.size + 1]? = some (.loop (rec .ready none)) := by
    rw [hw1]; have := heap_alloc_new (w.alloc (.deferred (some []))) (.loop (rec .ready none)); rwa [World.size_alloc] at this
  have hK1 : w1.heap[w.heap.size]? = some (.deferred (some [])) := by
    rw [hw1]; exact (heap_alloc_old _ _ _ (by simp)).trans (heap_alloc_new w _)
  have hBs : ∀ b, blks (Bs s0 i0) b → blks (Bp ++ Bs s0 i0) b := fun b h => blks_append.2 (.inr h)
  have hBp : ∀ b, blks Bp b → blks (Bp ++ Bs s0 i0) b := fun b h => blks_append.2 (.inl h)
  have hdis : ∀ b, blks (Bs s0 i0) b → ¬ blks Bp b := fun b ⟨o, ho, e⟩ ⟨o', ho', e'⟩ => (List.pairwise_append.1 m.sep.apart).2.2 o' ho' o ho b e' e
  have htwo : ∀ st j s i b, blks (two rec (w.heap.size + 1) w.heap.size st j (Bs s i)) b ↔ b = w.heap.size + 1 ∨ b = w.heap.size ∨ blks (Bs s i) b := fun st j s i b => by
    simp only [two, blks, List.mem_cons, exists_eq_or_imp, Own.blk, Option.some.injEq]
    constructor
    · rintro (h | h | h)
      · exact .inl h.symm
      · exact .inr (.inl h.symm)
      · exact .inr (.inr h)
    · rintro (h | h | h)
      · exact .inl h.symm
      · exact .inr (.inl h.symm)
      · exact .inr (.inr h)
  have hsepS : Sep (Bs s0 i0) w := ⟨fun o ho => m.sep.holds o (List.mem_append_right _ ho), (List.pairwise_append.1 m.sep.apart).2.1⟩
  have hsep2 : Sep (two rec (w.heap.size + 1) w.heap.size .ready none (Bs s0 i0)) w1 := by
    refine ⟨fun o ho => ?_, List.pairwise_cons.2 ⟨fun o ho b h1 h2 => ?_, List.pairwise_cons.2 ⟨fun o ho b h1 h2 => ?_, hsepS.apart⟩⟩⟩
    · unfold two at ho
      cases ho with
      | head => exact hL1
      | tail _ ho => cases ho with
        | head => exact hK1
        | tail _ ho => exact Own.keep (hsepS.holds o ho) fun b hb => hold b (Own.lt (hsepS.holds o ho) hb)
    · cases h1
      cases ho with
      | head => simp [Own.blk] at h2
      | tail _ ho => have := Own.lt (hsepS.holds o ho) h2; omega
    · cases h1
      have := Own.lt (hsepS.holds o ho) h2
      omega
  have hX : ∀ b, (V b ∧ ¬ blks Bp b ∨ b = w.heap.size + 1 ∨ b = w.heap.size) → b < w1.heap.size := fun b h => by
    rcases h with h | h | h
    · have := m.vlt b h.1; omega
    · omega
    · omega
  have kv1 : ∀ V' : Av, (∀ b, b < w.heap.size → V' b → V b) → Kept V V' w w1 := fun V' h => ⟨by omega, fun b hl _ => hold b hl, h⟩
  refine ⟨w.heap.size + 1, [{ target := .collected w.heap.size, args := #[] }], w1, { target := .fn (.func gf) caps.toArray, args := #[yv (w.heap.size + 1)] }, w1, gf, (yv (w.heap.size + 1) :: caps).toArray, w1, ?_, ?_, fun _ _ => trivial, ?_, fun h => (by cases h), ?_⟩
  · rw [hw1, hrec]; exact run_enterLoop_outer _ _ _ _ _
  · simp only [resolve, hs.ev hg]
    simp [Deferred.ofValue, Act.eval, yv]
  · simp only [invoke]
    rw [hc.enters]
    simp
  · have hJ0 : (JL c rec (w.heap.size + 1) w.heap.size Bs Φs jmp s0).p (blks (two rec (w.heap.size + 1) w.heap.size .ready none (Bs s0 i0))) (blks Bp) w1 := by
      refine ⟨i0, fun b => V b ∨ b = w.heap.size + 1 ∨ b = w.heap.size, fun b h => .inl (m.vb b (hBp b h)), fun b h => .inl (m.vx b h), fun b h => ?_, fun b h => ?_, by rw [hj0]; exact hsep2, by rw [hj0]; exact fun b h => h, fun φ hφ => φ.st (kv1 _ fun b hl h => ?_) (m.phi φ (hΦs φ hφ)), c.G.st (kv1 _ fun b hl h => ?_) m.g, by have := m.sz; omega⟩
      · rcases (htwo _ _ _ _ b).1 h with h | h | h
        · exact .inr (.inl h)
        · exact .inr (.inr h)
        · exact .inl (m.vb b (hBs b h))
      · have hlt := hsep2.lt h
        have hsz := m.sz
        rcases (htwo _ _ _ _ b).1 h with h | h | h
        · exact ⟨fun h' => by have := (sep_left m.sep).lt h'; omega, hlt, .inr (by omega), fun hx => by have := m.xlt b hx; omega⟩
        · exact ⟨fun h' => by have := (sep_left m.sep).lt h'; omega, hlt, .inr (by omega), fun hx => by have := m.xlt b hx; omega⟩
        · exact ⟨hdis b h, hlt, (m.own b (hBs b h)).1, (m.own b (hBs b h)).2.1⟩
      · rcases h with h | h | h
        · exact h
        · omega
        · omega
      · rcases h with h | h | h
        · exact h
        · omega
        · omega
    have hcall := hc.calls σ (JL c rec (w.heap.size + 1) w.heap.size Bs Φs jmp) Y (fun s => (jmp s).isNone) A (w.heap.size + 1) s0 w1 (fun b => V b ∧ ¬ blks Bp b ∨ b = w.heap.size + 1 ∨ b = w.heap.size) (blks (two rec (w.heap.size + 1) w.heap.size .ready none (Bs s0 i0))) hX
      ((sep_left m.sep).keep fun b hb => hold b ((sep_left m.sep).lt hb)) (fun b h h' => by
        have := (sep_left m.sep).lt h
        rcases h' with h' | h' | h'
        · exact h'.2 h
        · omega
        · omega) (fun b h => by
        rcases (htwo _ _ _ _ b).1 h with h | h | h
        · exact .inr (.inl h)
        · exact .inr (.inr h)
        · exact .inl ⟨m.vb b (hBs b h), hdis b h⟩) (fun φ hφ => φ.st (kv1 _ fun b hl h => by
          rcases h with (h | h | h) | h
          · exact h.1
          · omega
          · omega
          · exact m.vb b (hBp b h)) (m.phi φ (hΦp φ hφ))) (c.G.st (kv1 _ fun b hl h => by
          rcases h with (h | h | h) | h
          · exact h.1
          · omega
          · omega
          · exact m.vb b (hBp b h)) m.g) hJ0 (by rw [hj0]; rfl) hA ?_
    · refine callsIn_fr (hcall.mono ?_)
      rintro e w2 ⟨v, s', M', B', Φ', rfl, hR, hm', hsep', hbl', hphi', ⟨i', VJ, j1, j2, j3, j4, j5, j6, j7, j8, j9⟩, hM', ⟨hsz', hio'⟩, hk'⟩
      have hl2 : w2.heap[w.heap.size + 1]? = some (.loop (rec (stOf (jmp s')) (jmp s'))) := j5.holds _ (.head _)
      have hmk2 : w2.heap[w.heap.size]? = some (.deferred (some [])) := j5.holds _ (.tail _ (.head _))
      have hend1 := run_endLoop (P := c.P) hl2 (by rw [hrec]; cases jmp s' <;> simp [recOf, stOf])
      have hpend : (rec (stOf (jmp s')) (jmp s')).pending = jmp s' := by rw [hrec]; rfl
      have hM2 : ∀ b, b = w.heap.size + 1 ∨ b = w.heap.size ∨ blks (Bs s' i') b → M' b := fun b h => j6 b ((htwo _ _ _ _ b).2 h)
      obtain ⟨w4, hw4⟩ : ∃ w4, w4 = w2.putObj (w.heap.size + 1) (.loop { rec (stOf (jmp s')) (jmp s') with state := .exhausted }) := ⟨_, rfl⟩
      have hsz4 : w4.heap.size = w2.heap.size := by rw [hw4]; simp [World.putObj]
      have hk4 : ∀ b, b ≠ w.heap.size + 1 → w4.heap[b]? = w2.heap[b]? := fun b hb => by rw [hw4]; exact putObj_other hb
      have hst : St c ρ (.mark w.heap.size :: (B' ++ Bs s' i')) (Φ' ++ Φs s' i') [] { a with defers := [{ target := .collected w.heap.size, args := #[] }] ++ a.defers } w4 := by
        have hblk4 : ∀ b, blks (.mark w.heap.size :: (B' ++ Bs s' i')) b → b = w.heap.size ∨ blks B' b ∨ blks (Bs s' i') b := fun b ⟨o, ho, e⟩ => by
          cases ho with
          | head => cases e; exact .inl rfl
          | tail _ ho => rcases List.mem_append.1 ho with ho | ho
                         · exact .inr (.inl ⟨o, ho, e⟩)
                         · exact .inr (.inr ⟨o, ho, e⟩)
        have hnl : ∀ b, blks (.mark w.heap.size :: (B' ++ Bs s' i')) b → b ≠ w.heap.size + 1 := fun b h e => by
          rcases hblk4 b h with h | h | h
          · omega
          · exact (hbl' b h).2.1 (hM2 b (.inl e))
          · obtain ⟨o, ho, e'⟩ := h
            exact (List.pairwise_cons.1 j5.apart).1 o (.tail _ ho) b (by rw [e]; rfl) e'
        have hsepB : Sep (Bs s' i') w2 := ⟨fun o ho => j5.holds o (.tail _ (.tail _ ho)), (List.pairwise_cons.1 (List.pairwise_cons.1 j5.apart).2).2⟩
        have hsep4 : Sep (.mark w.heap.size :: (B' ++ Bs s' i')) w2 := by
          refine ⟨fun o ho => ?_, List.pairwise_cons.2 ⟨fun o ho b h1 h2 => ?_, List.pairwise_append.2 ⟨hsep'.apart, hsepB.apart, fun o ho o' ho' b h1 h2 => ?_⟩⟩⟩
          · cases ho with
            | head => exact hmk2
            | tail _ ho => rcases List.mem_append.1 ho with ho | ho
                           · exact hsep'.holds o ho
                           · exact hsepB.holds o ho
          · cases h1
            rcases List.mem_append.1 ho with ho | ho
            · exact (hbl' _ ⟨o, ho, h2⟩).2.1 (hM2 _ (.inr (.inl rfl)))
            · exact (List.pairwise_cons.1 (List.pairwise_cons.1 j5.apart).2).1 o ho _ rfl h2
          · exact (hbl' b ⟨o, ho, h1⟩).2.1 (hM2 b (.inr (.inr ⟨o', ho', h2⟩)))
        refine ⟨hs.nt, hs.reg, ?_, fun b => c.X b ∨ blks (.mark w.heap.size :: (B' ++ Bs s' i')) b, fun b => c.X b ∨ blks (.mark w.heap.size :: (B' ++ Bs s' i')) b, NoAv, ?_⟩
        · have h1 : a.defers = marks (Bp ++ Bs s0 i0) := hs.dfr.trans (by unfold dfs; rw [hr])
          rw [marks_append, hc.nomark, List.nil_append] at h1
          show [_] ++ a.defers = dfs c (.mark w.heap.size :: (B' ++ Bs s' i'))
          rw [show dfs c (.mark w.heap.size :: (B' ++ Bs s' i')) = marks (.mark w.heap.size :: (B' ++ Bs s' i')) by unfold dfs; rw [hr]]
          rw [marks_cons, marks_append, hm', hmk s' i', ← h1]
          rfl
        · have kvJ : Kept VJ (fun b => c.X b ∨ blks (.mark w.heap.size :: (B' ++ Bs s' i')) b) w2 w4 := ⟨by omega, fun b _ hn => hk4 b fun e => hn (j3 b (hM2 b (.inl e))), fun b _ h => by
            rcases h with h | h
            · exact j2 b h
            · rcases hblk4 b h with h | h | h
              · exact j3 b (hM2 b (.inr (.inl h)))
              · exact j1 b h
              · exact j3 b (hM2 b (.inr (.inr h)))⟩
          have kvI : Kept (Or' (Or' (fun b => V b ∧ ¬ blks Bp b ∨ b = w.heap.size + 1 ∨ b = w.heap.size) M') (blks B')) (fun b => c.X b ∨ blks (.mark w.heap.size :: (B' ++ Bs s' i')) b) w2 w4 := ⟨by omega, fun b _ hn => hk4 b fun e => hn (.inl (.inl (.inr (.inl e)))), fun b _ h => by
            rcases h with h | h
            · exact .inl (.inl (.inl ⟨m.vx b h, fun h' => (m.own b (hBp b h')).2.1 h⟩))
            · rcases hblk4 b h with h | h | h
              · exact .inl (.inr (hM2 b (.inr (.inl h))))
              · exact .inr h
              · exact .inl (.inr (hM2 b (.inr (.inr h))))⟩
          have hszw := m.sz
          have hio4 : Io c.w0 w4 := m.io.trans (Io.trans (b := w1) ⟨by rw [hw1]; rfl, by rw [hw1]; rfl, by rw [hw1]; rfl⟩ (hio'.trans ⟨by rw [hw4]; rfl, by rw [hw4]; rfl, by rw [hw4]; rfl⟩))
          refine ⟨fun b h => .inl h, fun b h => h.elim, fun b h => .inr h, fun b h => ?_, fun b h => .inr h, fun b h => ?_, hsep4.keep fun b hb => hk4 b (hnl b hb), fun b h => ?_, fun φ hφ => ?_, fun ψ h => (by cases h), c.G.st kvJ j8, by omega, fun b h1 h2 h3 => ?_, m.xlt, fun b h => h.elim, hio4⟩
          · rcases h with h | h
            · have := m.xlt b h; omega
            · have := hsep4.lt h; omega
          · rcases h with h | h
            · have := m.xlt b h; omega
            · have := hsep4.lt h; omega
          · rcases hblk4 b h with h | h | h
            · exact ⟨.inr (by omega), fun hx => by have := m.xlt b hx; omega, fun h => h⟩
            · rcases (hbl' b h).2.2 with h' | h'
              · exact ⟨(m.own b (hBp b h')).1, (m.own b (hBp b h')).2.1, fun h => h⟩
              · exact ⟨.inr (by omega), fun hx => by have := m.xlt b hx; omega, fun h => h⟩
            · obtain ⟨_, _, a3, a4⟩ := j4 b (hM2 b (.inr (.inr h)))
              exact ⟨a3, a4, fun h => h⟩
          · rcases List.mem_append.1 hφ with hφ | hφ
            · exact φ.st kvI (hphi' φ hφ)
            · exact φ.st kvJ (j7 φ hφ)
          · refine (hk4 b (by omega)).trans ((hk' b (by omega) (fun h => ?_) (fun h => ?_)).trans ((hold b (by omega)).trans (m.frame b h1 h2 h3)))
            · rcases (m.own b (hBp b h)).1 with h' | h'
              · exact h2 h'
              · omega
            · rcases (htwo _ _ _ _ b).1 h with h | h | h
              · omega
              · omega
              · rcases (m.own b (hBs b h)).1 with h' | h'
                · exact h2 h'
                · omega
      obtain ⟨e1, e2⟩ := hend s' i' B' Φ' w.heap.size hR
      refine ⟨(rec (stOf (jmp s')) (jmp s')).pending, w4, by rw [hw4]; exact hend1, ?_⟩
      rw [hpend]
      cases hjs : jmp s' with
      | none => exact e1 hjs _ w4 hst
      | some j =>
        have := e2 j hjs _ w4 hst
        rw [hr] at this
        exact this
    · -- a round
      intro s x vs wy VE U M hgo hAs hXV hJ hMV hUV hVlt hEl
      have hj : jmp s = none := by simpa using hgo
      obtain ⟨i, VJ, j1, j2, j3, j4, j5, j6, j7, j8, j9⟩ := hJ
      rw [hj] at j5 j6
      have hl : wy.heap[w.heap.size + 1]? = some (.loop (rec .ready none)) := j5.holds _ (.head _)
      have hlen := hE x vs VE wy hEl
      have hy := run_yield (P := c.P) (args := vs.toArray) hl (by rw [hrec]; simp [recOf, hlen])
      rw [hrec] at hy
      have htied : Tied ⟨c.P, some (w.heap.size + 1), c.nt, wy, fun b => (U b ∨ c.X b), M, NoAv, c.G⟩ c U := ⟨rfl, fun b h => .inr h, fun b h => .inl h, fun b h => ⟨(j4 b h).2.2.1, (j4 b h).2.2.2⟩, j9, m.xlt, rfl, trivial⟩
      have hbd := hbody (w.heap.size + 1) w.heap.size rec wy (fun b => (U b ∨ c.X b)) U M s i x vs hrecB hj hAs htied { tmps := (ps.zip vs).foldl (fun t q => t.setIfInBounds q.1 q.2) a.tmps, defers := [] } wy ⟨by rw [size_foldl_set]; exact hs.nt, pr_regs (c := c) ps vs ρ a.tmps (fun p hp => by rw [hs.nt]; exact hps p hp) hs.reg, ?_,
        fun b => (VJ b ∧ VE b), fun b => blks (two rec (w.heap.size + 1) w.heap.size .ready none (Bs s i)) b, NoAv, ?_⟩
      · refine ⟨fn, _, assign, body, hy, roundIn_of_wpIn trivial (n := 0) ?_⟩
        have hbd' : assign.wpIn (Fr (some (w.heap.size + 1))) 0 c.P (AQ ⟨c.P, some (w.heap.size + 1), c.nt, wy, fun b => (U b ∨ c.X b), M, NoAv, c.G⟩ (w.heap.size + 1) body (RQ ⟨c.P, some (w.heap.size + 1), c.nt, wy, fun b => (U b ∨ c.X b), M, NoAv, c.G⟩ c rec (w.heap.size + 1) w.heap.size Bs Φs jmp (Y s x) U)) { tmps := (ps.zip vs).foldl (fun t q => t.setIfInBounds q.1 q.2) a.tmps, defers := [] } wy := hbd
        have hz : ((recOf fn a.tmps ps.toArray assign body w.heap.size .ready none).params.zip vs.toArray).foldl (fun tmps (t, a) => tmps.setIfInBounds t a) (recOf fn a.tmps ps.toArray assign body w.heap.size .ready none).tmps = (ps.zip vs).foldl (fun t q => t.setIfInBounds q.1 q.2) a.tmps := by
          simp [recOf]
        rw [hz]
        exact hbd'
      · rfl
      · have hXc : ∀ b, c.X b → VE b := fun b h => hXV b (.inl ⟨m.vx b h, fun h' => (m.own b (hBp b h')).2.1 h⟩)
        refine ⟨fun b h => h.elim (fun h => ⟨j1 b h, hUV b h⟩) fun h => ⟨j2 b h, hXc b h⟩, fun b h => h.elim, fun b h => ⟨j3 b (j6 b h), hMV b (j6 b h)⟩, fun b h => hVlt b h.2, fun b h => h, fun b h => j5.lt h, j5, fun b h => ⟨.inl (j6 b h), fun h' => h'.elim (j4 b (j6 b h)).1 (j4 b (j6 b h)).2.2.2, fun h => h⟩,
          List.forall_mem_cons.2 ⟨(E x vs).less hEl fun b h => h.2, fun φ hφ => φ.less (j7 φ hφ) fun b h => h.1⟩, fun ψ h => (by cases h), c.G.less j8 fun b h => h.1, Nat.le_refl _, fun _ _ _ _ => rfl, fun b h => h.elim (fun h => hVlt b (hUV b h)) fun h => hVlt b (hXc b h), fun b h => h.elim, Io.refl wy⟩
end
end Go.Proofs.YtjahiohlekdhoaaDoor
