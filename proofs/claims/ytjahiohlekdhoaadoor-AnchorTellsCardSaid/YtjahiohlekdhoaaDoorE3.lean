/-
  The engine, part 3: contracts; calls; a function's entry and its ends.
-/
import Derived.Test.YtjahiohlekdhoaaDoorE2
import Derived.Shelf.Abstract
namespace Go.Proofs.YtjahiohlekdhoaaDoor
open Go

def Or' (X Y : Av) : Av := fun b => X b ∨ Y b
def NoAv : Av := fun _ => False

abbrev PostC := Value → List Own → List Res → Prop

/-- WHAT A FUNCTION DOES: called with these arguments where these blocks are handed to it and these facts hold, it returns; of what was there it changes the handed blocks alone; what it tells speaks of no block of the caller's own. -/
structure Ctr (P : Program) (G : Res) (f : FuncId) (args : List Value) (B : List Own) (Φ : List Res) (post : PostC) : Prop where
  nomark : marks B = []
  enters : ∀ args w, (callFunc f args).run P w = .ok (.enter f args) w
  calls : ∀ (w : World) (X : Av), (∀ x, X x → x < w.heap.size) → Sep B w → (∀ b, blks B b → ¬ X b) → (∀ φ ∈ Φ, φ.p (Or' X (blks B)) w) → G.p (Or' X (blks B)) w →
    Calls P f args.toArray w fun e w' => ∃ v B' Φ', e = .returned v ∧ post v B' Φ' ∧ marks B' = [] ∧ Sep B' w' ∧ (∀ b, blks B' b → ¬ X b ∧ (blks B b ∨ w.heap.size ≤ b)) ∧
      (∀ φ ∈ Φ', φ.p (Or' X (blks B')) w') ∧ (w.heap.size ≤ w'.heap.size ∧ Io w w') ∧ ∀ b, b < w.heap.size → ¬ blks B b → w'.heap[b]? = w.heap[b]?

theorem callsIn_fr {r : Option Nat} {n : Nat} {P : Program} {f : FuncId} {args : Array Value} {w : World} {R : Ending → World → Prop} (h : Calls P f args w R) : CallsIn (Fr r) n P f args w R := by
  have h' : CallsIn Fence.wide n P f args w R := callsIn_wide.2 h
  cases r with
  | none => exact h'
  | some l => exact CallsIn.inRound l h'
theorem calls_fr {n : Nat} {P : Program} {f : FuncId} {args : Array Value} {w : World} {R : Ending → World → Prop} (h : CallsIn (Fr none) n P f args w R) : Calls P f args w R := callsIn_wide.1 h

theorem blks_append {A B : List Own} {b : Nat} : blks (A ++ B) b ↔ blks A b ∨ blks B b := by
  simp only [blks, List.mem_append]
  constructor
  · rintro ⟨o, h | h, e⟩
    · exact .inl ⟨o, h, e⟩
    · exact .inr ⟨o, h, e⟩
  · rintro (⟨o, h, e⟩ | ⟨o, h, e⟩)
    · exact ⟨o, .inl h, e⟩
    · exact ⟨o, .inr h, e⟩
theorem marks_append {A B : List Own} : marks (A ++ B) = marks A ++ marks B := by
  induction A with
  | nil => rfl
  | cons x r ih => rw [List.cons_append, marks_cons, marks_cons x r, ih, List.append_assoc]

section
variable {c : Ctx} {ρ : List (Nat × Value)} {B Bp Br B' : List Own} {Φ Φp : List Res} {Ψ : List JR} {ops : Array Oper} {rest : List Oper} {Q : Post} {d ty t : Nat} {ps : String} {af : Array Edge} {x y z : Operand} {v u : Value} {w : World}

/-- A fact where more is avoided no longer. -/
theorem Res.less (φ : Res) {V V' : Av} {w : World} (h : φ.p V w) (hv : ∀ b, V' b → V b) : φ.p V' w := φ.st ⟨Nat.le_refl _, fun _ _ _ => rfl, fun b _ => hv b⟩ h

theorem sep_left (h : Sep (Bp ++ Br) w) : Sep Bp w := ⟨fun o ho => h.holds o (List.mem_append_left _ ho), (List.pairwise_append.1 h.apart).1⟩

/-- The memory behind a call to which Bp was handed. -/
theorem MS.called {V U M : Av} {w w' : World} (m : MS c (Bp ++ Br) Φ Ψ V U M w) {Φ' : List Res} (hsep : Sep B' w') (hbl : ∀ b, blks B' b → ¬ (V b ∧ ¬ blks Bp b) ∧ (blks Bp b ∨ w.heap.size ≤ b))
    (hphi : ∀ φ ∈ Φ', φ.p (Or' (fun b => V b ∧ ¬ blks Bp b) (blks B')) w') (hsz : w.heap.size ≤ w'.heap.size) (hk : ∀ b, b < w.heap.size → ¬ blks Bp b → w'.heap[b]? = w.heap[b]?) (hio : Io w w') :
    ∃ V' U', MS c (B' ++ Br) (Φ' ++ Φ) Ψ V' U' M w' := by
  have hBp : ∀ b, blks Bp b → blks (Bp ++ Br) b := fun b h => blks_append.2 (.inl h)
  have hBr : ∀ b, blks Br b → blks (Bp ++ Br) b := fun b h => blks_append.2 (.inr h)
  have hdis : ∀ b, blks Br b → ¬ blks Bp b := fun b ⟨o, ho, e⟩ ⟨o', ho', e'⟩ => (List.pairwise_append.1 m.sep.apart).2.2 o' ho' o ho b e' e
  have kv : Kept V (Or' (fun b => V b ∧ ¬ blks Bp b) (blks B')) w w' := ⟨hsz, fun b hl hn => hk b hl fun h => hn (m.vb b (hBp b h)), fun b hl h => by
    rcases h with h | h
    · exact h.1
    · rcases (hbl b h).2 with h' | h'
      · exact m.vb b (hBp b h')
      · omega⟩
  have ku : Kept U (Or' (fun b => U b ∧ ¬ blks Bp b) (blks B')) w w' := ⟨hsz, fun b hl hn => hk b hl fun h => hn (m.ub b (hBp b h)), fun b hl h => by
    rcases h with h | h
    · exact h.1
    · rcases (hbl b h).2 with h' | h'
      · exact m.ub b (hBp b h')
      · omega⟩
  have hBl : ∀ b, blks B' b → b < w'.heap.size := fun b h => hsep.lt h
  refine ⟨_, Or' (fun b => U b ∧ ¬ blks Bp b) (blks B'), ⟨fun b h => .inl ⟨m.vx b h, fun h' => (m.own b (hBp b h')).2.1 h⟩, fun b h => .inl ⟨m.vm b h, fun h' => (m.own b (hBp b h')).2.2 h⟩, fun b h => ?_, fun b h => ?_, fun b h => ?_, fun b h => ?_,
    ⟨fun o ho => ?_, ?_⟩, fun b h => ?_, fun φ hφ => ?_, fun ψ hψ => ψ.st ku (m.psi ψ hψ), c.G.st kv m.g, Nat.le_trans m.sz hsz, fun b h1 h2 h3 => ?_, m.xlt, m.mo, m.io.trans hio⟩⟩
  · rcases blks_append.1 h with h | h
    · exact .inr h
    · exact .inl ⟨m.vb b (hBr b h), hdis b h⟩
  · rcases h with h | h
    · exact Nat.lt_of_lt_of_le (m.vlt b h.1) hsz
    · exact hBl b h
  · rcases blks_append.1 h with h | h
    · exact .inr h
    · exact .inl ⟨m.ub b (hBr b h), hdis b h⟩
  · rcases h with h | h
    · exact Nat.lt_of_lt_of_le (m.ult b h.1) hsz
    · exact hBl b h
  · rcases List.mem_append.1 ho with ho | ho
    · exact hsep.holds o ho
    · have hh := m.sep.holds o (List.mem_append_right _ ho)
      exact Own.keep hh fun b hb => hk b (Own.lt hh hb) (hdis b ⟨o, ho, hb⟩)
  · refine List.pairwise_append.2 ⟨hsep.apart, (List.pairwise_append.1 m.sep.apart).2.1, fun o ho o' ho' b e e' => ?_⟩
    have h1 : blks Br b := ⟨o', ho', e'⟩
    rcases (hbl b ⟨o, ho, e⟩).2 with h | h
    · exact hdis b h1 h
    · have := m.sep.lt (hBr b h1); omega
  · rcases blks_append.1 h with h | h
    · rcases (hbl b h).2 with h' | h'
      · exact m.own b (hBp b h')
      · have := m.sz
        exact ⟨.inr (by omega), fun hx => by have := m.xlt b hx; omega, fun hx => by have := m.vlt b (m.vm b hx); omega⟩
    · exact m.own b (hBr b h)
  · rcases List.mem_append.1 hφ with hφ | hφ
    · exact hphi φ hφ
    · exact φ.st kv (m.phi φ hφ)
  · have hs := m.sz
    refine (hk b (by omega) fun h => ?_).trans (m.frame b h1 h2 h3)
    rcases (m.own b (hBp b h)).1 with h' | h'
    · exact h2 h'
    · omega

/-- A call of a function by its contract; the blocks that are handed stand in front. -/
theorem r_call {f : FuncId} {args cap : List Value} {l : List Operand} {vs : List Value} {at' : Array TypeId} {post : PostC} {fo : Operand} (hc : Ctr c.P c.G f args Bp Φp post) (hf : ev ρ fo = some (.func (.func f) #[] cap.toArray)) (hargs : evs ρ l = some vs) (ha : args = vs ++ cap)
    (hΦ : ∀ φ ∈ Φp, φ ∈ Φ) (hb : Nat.blt d c.nt = true) (k : ∀ v B' Φ', post v B' Φ' → SL c ((d, v) :: ρ) (B' ++ Br) (Φ' ++ Φ) Ψ ops rest Q) :
    SL c ρ (Bp ++ Br) Φ Ψ ops (⟨some d, .call ⟨.value fo, l.toArray, at'⟩, ty, ps, af, none⟩ :: rest) Q :=
  sl_plain rfl fun a w hs K hK => by
    obtain ⟨V, U, M, m⟩ := hs.mem
    refine ⟨fun _ _ => trivial, ?_⟩
    have hsem : ∀ o : Oper, (∀ c, o.op ≠ .defer c) → (o.semAt (Fr c.r).round a.eval) = execOp a.eval o := fun o ho => Oper.semAt_eq _ _ _ ho
    rw [hsem _ (fun _ => by simp)]
    have hmap : l.toArray.map a.eval = vs.toArray := by rw [List.map_toArray, hs.evs hargs]
    have hrun : (execOp a.eval ⟨some d, .call ⟨.value fo, l.toArray, at'⟩, ty, ps, af, none⟩).run c.P w = .ok (.enter f args.toArray) w := by
      simp only [execOp, resolve, hs.ev hf, Deferred.ofValue, invoke, Sem.run_bind, Sem.run_pure, Result.andThen_ok, hmap]
      rw [hc.enters]
      congr 2
      rw [ha]; simp
    rw [hrun]
    refine ⟨fun h => (by cases h), callsIn_fr (Calls.mono (hc.calls w (fun b => V b ∧ ¬ blks Bp b) (fun b h => m.vlt b h.1) (sep_left m.sep) (fun b h h' => h'.2 h) (fun φ hφ => φ.less (m.phi φ (hΦ φ hφ)) ?_) (c.G.less m.g ?_)) ?_)⟩
    · intro b h
      rcases h with h | h
      · exact h.1
      · exact m.vb b (blks_append.2 (.inl h))
    · intro b h
      rcases h with h | h
      · exact h.1
      · exact m.vb b (blks_append.2 (.inl h))
    · rintro e w' ⟨v, B', Φ', rfl, hp, hm, hsep, hbl, hphi, ⟨hsz, hio⟩, hkept⟩
      refine hK _ _ (k v B' Φ' hp _ _ ?_)
      obtain ⟨V', U', m'⟩ := m.called hsep hbl hphi hsz hkept hio
      exact (hs.put hb v).mem' (by rw [marks_append, marks_append, hm, hc.nomark]) m'
end

/-! ### A function's entry and its ends -/
def regs : Nat → List Value → List (Nat × Value)
  | _, [] => []
  | n, v :: r => (n, v) :: regs (n + 1) r

theorem lk_regs : ∀ (l : List Value) (n t : Nat) (v : Value), lk (regs n l) t = some v → n ≤ t ∧ l[t - n]? = some v
  | [], _, _, _, h => by cases h
  | u :: r, n, t, v, h => by
    rw [regs, lk_cons] at h
    split at h
    · rename_i e; subst e; cases h; simp
    · obtain ⟨h1, h2⟩ := lk_regs r (n + 1) t v h
      refine ⟨by omega, ?_⟩
      have : t - n = (t - (n + 1)) + 1 := by omega
      rw [this]; simpa using h2

/-- What is asked at the ends of a function's body. -/
def FQ (c : Ctx) (fn : Func) (B0 : List Own) (post : PostC) : Post :=
  bodyPostM (Fr none) 0 c.P fn fun e w' => ∃ v B' Φ', e = .returned v ∧ post v B' Φ' ∧ marks B' = [] ∧ Sep B' w' ∧ (∀ b, blks B' b → ¬ c.X b ∧ (blks B0 b ∨ c.w0.heap.size ≤ b)) ∧
      (∀ φ ∈ Φ', φ.p (Or' c.X (blks B')) w') ∧ (c.w0.heap.size ≤ w'.heap.size ∧ Io c.w0 w') ∧ ∀ b, b < c.w0.heap.size → ¬ blks B0 b → w'.heap[b]? = c.w0.heap[b]?

theorem Ctr.intro {P : Program} {G : Res} {f : FuncId} {fn : Func} {code : Code} {args : List Value} {B : List Own} {Φ : List Res} {post : PostC} {nt : Nat} {ρ : List (Nat × Value)}
    (hf : P.funcs[f]? = some fn) (hn : (fn.name == "runtime.NumGoroutine") = false) (hbody : fn.body = some code) (hnt : fn.ntmps = nt) (hm : marks B = []) (hle : Nat.ble args.length nt = true) (hρ : regs 0 args = ρ)
    (h : ∀ w X, SW ⟨P, none, nt, w, X, blks B, NoAv, G⟩ ρ B Φ [] code (FQ ⟨P, none, nt, w, X, blks B, NoAv, G⟩ fn B post)) : Ctr P G f args B Φ post := by
  refine ⟨hm, enters_of hf hn hbody, fun w X hX hsep hdis hphi hG => ?_⟩
  refine calls_fr (n := 0) (callsIn_of_wp_marks hf hbody trivial ?_ rfl)
  have hle' : args.length ≤ nt := by simpa using hle
  refine h w X _ w ⟨by simp [hnt]; omega, fun t v ht => ?_, hm.symm, Or' X (blks B), blks B, NoAv, ?_⟩
  · rw [← hρ] at ht
    obtain ⟨_, h2⟩ := lk_regs args 0 t v ht
    have hlt : t < args.length := by
      rcases Nat.lt_or_ge t args.length with h | h
      · exact h
      · rw [Nat.sub_zero, List.getElem?_eq_none h] at h2; cases h2
    rw [Nat.sub_zero] at h2
    rw [Array.getD_eq_getD_getElem?, Array.getElem?_append_left (by simpa using hlt)]
    simp [h2]
  · exact ⟨fun b h => .inl h, fun b h => h.elim, fun b h => .inr h, fun b h => h.elim (hX b) hsep.lt, fun b h => h, fun b h => hsep.lt h, hsep, fun b h => ⟨.inl h, hdis b h, fun h => h⟩, hphi, fun ψ h => (by cases h), hG, Nat.le_refl _, fun _ _ _ _ => rfl, hX, fun b h => h.elim, Io.refl w⟩

/-! ### The ends -/
/-- What the result variables hold. -/
def res1 (ρ : List (Nat × Value)) (B : List Own) : ResultVar → Value → Prop
  | .tmp t, v => lk ρ t = some v
  | .cell a _, v => ∃ b cs ty, lk ρ a = some (.pointer (some ⟨b, 0, none⟩)) ∧ Own.box b cs ty ∈ B ∧ v.cells = cs.toArray

theorem apart_of {B : List Own} (h : B.Pairwise Apart) {x y : Own} (hx : x ∈ B) (hy : y ∈ B) : x = y ∨ Apart x y := by
  induction h with
  | nil => cases hx
  | cons h1 _ ih =>
    cases hx with
    | head => cases hy with
      | head => exact .inl rfl
      | tail _ hy => exact .inr (h1 _ hy)
    | tail _ hx => cases hy with
      | head => exact .inr fun b e e' => h1 _ hx b e' e
      | tail _ hy => exact ih hx hy

theorem putObj_other {w : World} {l k : Nat} {o : Obj} (h : k ≠ l) : (w.putObj l o).heap[k]? = w.heap[k]? := World.putObj_heap_other h

/-- The marks taken up: the world behind. -/
theorem leaves_marks {P : Program} {fn : Func} {tmps : Array Value} {R : Ending → World → Prop} : ∀ (B : List Own) (w : World), Sep B w →
    (∀ w', w'.heap.size = w.heap.size → Io w w' → (∀ b, (∀ o ∈ B, o = .mark b → False) → w'.heap[b]? = w.heap[b]?) → ∃ v, (results fn tmps).run P w' = .ok v w' ∧ R (.returned v) w') →
    LeavesInM (Fr none) 0 P fn tmps R (marks B) .returning w := by
  intro B
  induction B with
  | nil => intro w _ h; exact h w rfl (Io.refl w) fun _ _ => rfl
  | cons x r ih =>
    intro w hsep h
    have hr : Sep r w := ⟨fun o ho => hsep.holds o (.tail _ ho), (List.pairwise_cons.1 hsep.apart).2⟩
    cases x with
    | mark d =>
      have hd : w.heap[d]? = some (.deferred (some [])) := hsep.holds _ (.head _)
      refine ⟨by simp, .inl ⟨d, w.putObj d (.deferred none), rfl, run_takeDeferred hd, ?_⟩⟩
      refine ih _ (hr.keep fun b hb => putObj_other fun e => ?_) fun w' h1 hi h2 => h w' (by rw [h1]; simp [World.putObj]) (Io.trans ⟨rfl, rfl, rfl⟩ hi) fun b hb => ?_
      · subst e
        obtain ⟨o, ho, hb⟩ := hb
        exact (List.pairwise_cons.1 hsep.apart).1 o ho b rfl hb
      · rw [h2 b fun o ho => hb o (.tail _ ho)]
        exact putObj_other fun e => hb _ (.head _) (by rw [e])
    | box b cs ty => exact ih w hr fun w' h1 hi h2 => h w' h1 hi fun b' hb => h2 b' fun o ho => hb o (.tail _ ho)
    | row v n xs ty sz => exact ih w hr fun w' h1 hi h2 => h w' h1 hi fun b' hb => h2 b' fun o ho => hb o (.tail _ ho)
    | obj b o => exact ih w hr fun w' h1 hi h2 => h w' h1 hi fun b' hb => h2 b' fun o ho => hb o (.tail _ ho)

section
variable {c : Ctx} {ρ : List (Nat × Value)} {B B0 B' : List Own} {Φ Φ' : List Res} {Ψ : List JR} {fn : Func} {post : PostC}

theorem sp_end {v : Value} (hc : c.r = none) (hres : ∀ a w, St c ρ B Φ Ψ a w → (∀ w', (∀ o ∈ B, marks [o] = [] → o.holds w') → (results fn a.tmps).run c.P w' = .ok v w'))
    (hK : c.K = blks B0) (hY : c.Y = NoAv) (hp : post v B' Φ') (hB : B'.Sublist B) (hm : marks B' = []) (hΦ : ∀ φ ∈ Φ', φ ∈ Φ) : ∀ a w, St c ρ B Φ Ψ a w → LeavesInM (Fr none) 0 c.P fn a.tmps (fun e w' => ∃ v B' Φ', e = .returned v ∧ post v B' Φ' ∧ marks B' = [] ∧ Sep B' w' ∧ (∀ b, blks B' b → ¬ c.X b ∧ (blks B0 b ∨ c.w0.heap.size ≤ b)) ∧
      (∀ φ ∈ Φ', φ.p (Or' c.X (blks B')) w') ∧ (c.w0.heap.size ≤ w'.heap.size ∧ Io c.w0 w') ∧ ∀ b, b < c.w0.heap.size → ¬ blks B0 b → w'.heap[b]? = c.w0.heap[b]?) a.defers .returning w := by
  intro a w hs
  obtain ⟨V, U, M, m⟩ := hs.mem
  rw [hs.dfr, show dfs c B = marks B by unfold dfs; rw [hc]]
  refine leaves_marks B w m.sep fun w' h1 hi h2 => ?_
  have hkeep : ∀ o ∈ B, marks [o] = [] → ∀ b, o.blk = some b → w'.heap[b]? = w.heap[b]? := fun o ho hmo b hb => h2 b fun o' ho' e => by
    subst e
    by_cases e : o = Own.mark b
    · subst e; cases hmo
    · have := apart_of m.sep.apart ho ho'
      rcases this with h | h
      · exact e h
      · exact h b hb rfl
  have hhold : ∀ o ∈ B, marks [o] = [] → o.holds w' := fun o ho hmo => Own.keep (m.sep.holds o ho) (hkeep o ho hmo)
  have hmarks : ∀ (L : List Own), marks L = [] → ∀ o ∈ L, marks [o] = [] := by
    intro L
    induction L with
    | nil => intro _ o ho; cases ho
    | cons x r ih =>
      intro h o ho
      rw [marks_cons] at h
      have h' := List.append_eq_nil_iff.1 h
      cases ho with
      | head => exact h'.1
      | tail _ ho => exact ih h'.2 o ho
  have hsub : ∀ o ∈ B', o ∈ B := fun o ho => hB.subset ho
  have hbl : ∀ b, blks B' b → blks B b := fun b ⟨o, ho, e⟩ => ⟨o, hsub o ho, e⟩
  have hout : ∀ b, ¬ blks B b → w'.heap[b]? = w.heap[b]? := fun b hb => h2 b fun o ho e => hb ⟨o, ho, by subst e; rfl⟩
  refine ⟨v, hres a w hs w' hhold, v, B', Φ', rfl, hp, hm, ⟨fun o ho => hhold o (hsub o ho) (hmarks B' hm o ho), m.sep.apart.sublist hB⟩, fun b h => ?_, fun φ hφ => ?_, ⟨by rw [h1]; exact m.sz, m.io.trans hi⟩, fun b h3 h4 => ?_⟩
  · obtain ⟨h5, h6, _⟩ := m.own b (hbl b h)
    exact ⟨h6, by rw [← hK]; exact h5⟩
  · refine φ.st ⟨by omega, fun b _ hn => hout b fun h => hn (m.vb b h), fun b _ h => ?_⟩ (m.phi φ (hΦ φ hφ))
    rcases h with h | h
    · exact m.vx b h
    · exact m.vb b (hbl b h)
  · refine Eq.trans (hout b fun h => ?_) (m.frame b h3 (by rw [hK]; exact h4) (by rw [hY]; exact fun h => h))
    rcases (m.own b h).1 with h' | h'
    · rw [hK] at h'; exact h4 h'
    · omega

theorem results_one {fn : Func} {t : Tmp} {v : Value} {P : Program} (h : fn.results = #[.tmp t]) {tmps : Array Value} (ht : tmps.getD t undef = v) (w : World) : (results fn tmps).run P w = .ok v w := by
  have ht' : tmps[t]?.getD undef = v := by rw [← Array.getD_eq_getD_getElem?]; exact ht
  simp [results, h, ht']

theorem sp_ret1 {t : Nat} {v : Value} (hc : c.r = none) (hr : fn.results = #[.tmp t]) (hx : lk ρ t = some v) (hK : c.K = blks B0) (hY : c.Y = NoAv) (hp : post v B' Φ') (hB : B'.Sublist B) (hm : marks B' = []) (hΦ : ∀ φ ∈ Φ', φ ∈ Φ) : SP c ρ B Φ Ψ .ret (FQ c fn B0 post) :=
  sp_end (B' := B') (v := v) hc (fun _ _ hs w' _ => results_one hr (hs.reg t v hx) w') hK hY hp hB hm hΦ
theorem sp_end1 {t : Nat} {v : Value} (hc : c.r = none) (hr : fn.results = #[.tmp t]) (hx : lk ρ t = some v) (hK : c.K = blks B0) (hY : c.Y = NoAv) (hp : post v B' Φ') (hB : B'.Sublist B) (hm : marks B' = []) (hΦ : ∀ φ ∈ Φ', φ ∈ Φ) : SP c ρ B Φ Ψ .normal (FQ c fn B0 post) :=
  sp_end (B' := B') (v := v) hc (fun _ _ hs w' _ => results_one hr (hs.reg t v hx) w') hK hY hp hB hm hΦ
end

end Go.Proofs.YtjahiohlekdhoaaDoor
