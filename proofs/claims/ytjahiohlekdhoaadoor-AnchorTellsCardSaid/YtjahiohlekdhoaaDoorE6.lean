/-
  The engine, part 6: iterators: their contracts, a yield, a range over a function.
-/
import Derived.Test.YtjahiohlekdhoaaDoorE5
namespace Go.Proofs.YtjahiohlekdhoaaDoor
open Go

/-- A loop's state behind a list's elements, where it stops once it goes on no more. -/
def runs {σ α : Type} (Y : σ → α → σ) (go : σ → Bool) : σ → List α → σ
  | s, [] => s
  | s, x :: l => bif go (Y s x) then runs Y go (Y s x) l else Y s x
theorem runs_cons {σ α : Type} {Y : σ → α → σ} {go : σ → Bool} {s : σ} {x : α} {l : List α} (h : go (Y s x) = true) : runs Y go s (x :: l) = runs Y go (Y s x) l := by simp [runs, h]
theorem runs_stop {σ α : Type} {Y : σ → α → σ} {go : σ → Bool} {s : σ} {x : α} {l : List α} (h : go (Y s x) = false) : runs Y go s (x :: l) = Y s x := by simp [runs, h]
theorem runs_all {σ α : Type} {Y : σ → α → σ} {go : σ → Bool} (h : ∀ s, go s = true) : ∀ (l : List α) (s : σ), runs Y go s l = l.foldl Y s
  | [], _ => rfl
  | x :: l, s => by rw [runs_cons (h _), List.foldl_cons, runs_all h l]
/-- What may be taken as given where a list's elements come, one by one. -/
def Adm {σ α : Type} (Y : σ → α → σ) (go : σ → Bool) (A : σ → α → Prop) : σ → List α → Prop
  | _, [] => True
  | s, x :: l => A s x ∧ (go (Y s x) = true → Adm Y go A (Y s x) l)
theorem adm_true {σ α : Type} {Y : σ → α → σ} {go : σ → Bool} : ∀ (l : List α) (s : σ), Adm Y go (fun _ _ => True) s l
  | [], _ => trivial
  | _ :: l, _ => ⟨trivial, fun _ => adm_true l _⟩
/-- The relation of an iterator over a list. -/
def over {α : Type} (L : List α) : (σ : Type) → (σ → α → σ) → (σ → Bool) → σ → σ → List Own → List Res → Prop := fun _ Y go s0 s' B' Φ' => s' = runs Y go s0 L ∧ B' = [] ∧ Φ' = []

def yv (l : Nat) : Value := .func (.yield l) #[] #[]

/-- WHAT A LOOP's BODY DOES, as its iterator sees it: handed an element where the loop goes on it takes the loop's state s to Y s x and says whether it goes on; of what was there it changes blocks of M alone. -/
def Yields (P : Program) (l : Nat) {σ α : Type} (J : σ → JR) (E : α → List Value → Res) (Y : σ → α → σ) (go : σ → Bool) (A : σ → α → Prop) (X : Av) : Prop :=
  ∀ (s : σ) (x : α) (vs : List Value) (w : World) (V U M : Av), go s = true → A s x → (∀ b, X b → V b) → (J s).p M U w → (∀ b, M b → V b) → (∀ b, U b → V b) → (∀ b, V b → b < w.heap.size) → (E x vs).p V w →
    YieldAt (Fr none) 0 P l vs.toArray w fun e w' => e = .returned (.bool (go (Y s x))) ∧ ∃ M', (J (Y s x)).p M' U w' ∧ (∀ b, M' b → (M b ∨ w.heap.size ≤ b) ∧ b < w'.heap.size) ∧ (w.heap.size ≤ w'.heap.size ∧ Io w w') ∧ ∀ b, b < w.heap.size → ¬ M b → w'.heap[b]? = w.heap[b]?

/-- WHAT AN ITERATOR DOES: it goes over the elements of L. -/
structure ICtr (P : Program) (G : Res) (g : FuncId) (caps : List Value) (B : List Own) (Φ : List Res) {α : Type} (E : α → List Value → Res) (L : List α) : Prop where
  nomark : marks B = []
  enters : ∀ args w, (callFunc g args).run P w = .ok (.enter g args) w
  calls : ∀ (σ : Type) (J : σ → JR) (Y : σ → α → σ) (go : σ → Bool) (A : σ → α → Prop) (l : Nat) (s0 : σ) (w : World) (X M : Av), (∀ x, X x → x < w.heap.size) → Sep B w → (∀ b, blks B b → ¬ X b) → (∀ b, M b → X b) → (∀ φ ∈ Φ, φ.p (Or' X (blks B)) w) → G.p (Or' X (blks B)) w →
    (J s0).p M (blks B) w → go s0 = true → Adm Y go A s0 L → Yields P l J E Y go A X →
    Calls P g (yv l :: caps).toArray w fun e w' => ∃ v s' M' B' Φ', e = .returned v ∧ over L σ Y go s0 s' B' Φ' ∧ marks B' = [] ∧ Sep B' w' ∧ (∀ b, blks B' b → ¬ X b ∧ ¬ M' b ∧ (blks B b ∨ w.heap.size ≤ b)) ∧
      (∀ φ ∈ Φ', φ.p (Or' (Or' X M') (blks B')) w') ∧ (J s').p M' (blks B') w' ∧ (∀ b, M' b → (M b ∨ w.heap.size ≤ b) ∧ b < w'.heap.size) ∧ (w.heap.size ≤ w'.heap.size ∧ Io w w') ∧ ∀ b, b < w.heap.size → ¬ blks B b → ¬ M b → w'.heap[b]? = w.heap[b]?

section
variable {c : Ctx} {ρ : List (Nat × Value)} {B Bp Br B' : List Own} {Φ Φp : List Res} {Ψ : List JR} {ops : Array Oper} {rest : List Oper} {Q : Post} {d ty t : Nat} {ps : String} {af : Array Edge} {x y z : Operand} {v u : Value} {w : World}

/-- A call of yield. -/
theorem r_yield {σ α : Type} {l : Nat} {J : σ → JR} {E : α → List Value → Res} {Y : σ → α → σ} {go : σ → Bool} {s : σ} {el : α} {vs : List Value} {xs : List Operand} {fo : Operand} {at' : Array TypeId} {A : σ → α → Prop} (hY : Yields c.P l J E Y go A c.X) (hgo : go s = true) (hA : A s el) (hf : ev ρ fo = some (yv l)) (hx : evs ρ xs = some vs)
    (hE : ∀ V w, (∀ φ ∈ Φ, φ.p V w) → (E el vs).p V w) (hb : Nat.blt d c.nt = true) (k : SL c ((d, .bool (go (Y s el))) :: ρ) B Φ [J (Y s el)] ops rest Q) :
    SL c ρ B Φ [J s] ops (⟨some d, .call ⟨.value fo, xs.toArray, at'⟩, ty, ps, af, none⟩ :: rest) Q :=
  sl_plain rfl fun a w hs K hK => by
    obtain ⟨V, U, M, m⟩ := hs.mem
    have hJ := m.psi _ (.head _)
    refine ⟨fun _ _ => trivial, ?_⟩
    have hsem : ∀ o : Oper, (∀ c, o.op ≠ .defer c) → (o.semAt (Fr c.r).round a.eval) = execOp a.eval o := fun o ho => Oper.semAt_eq _ _ _ ho
    rw [hsem _ (fun _ => by simp)]
    have hmap : xs.toArray.map a.eval = vs.toArray := by rw [List.map_toArray, hs.evs hx]
    obtain ⟨fn, tmps, assign, body, hy, hR⟩ := hY s el vs w V (fun b => U b ∧ V b) M hgo hA m.vx ((J s).st ⟨Nat.le_refl _, fun _ _ _ => rfl, fun b _ h => h.1⟩ hJ) m.vm (fun b h => h.2) m.vlt (hE V w m.phi)
    have hrun : (execOp a.eval ⟨some d, .call ⟨.value fo, xs.toArray, at'⟩, ty, ps, af, none⟩).run c.P w = .ok (.round l fn tmps assign body) w := by
      have hy' : (Instr.yield l vs.toArray).run c.P w = .ok (.round l fn tmps assign body) w := hy
      simp [execOp, resolve, hs.ev hf, yv, Deferred.ofValue, invoke, hmap, hy']
    rw [hrun]
    refine ⟨fun h => (by cases h), ?_⟩
    have hR' : RoundIn (Fr c.r) 0 c.P l fn tmps assign body w _ := hR
    refine hR'.mono ?_
    rintro e w' ⟨rfl, M', hJ', hM', ⟨hsz, hio⟩, hk⟩
    refine hK _ _ (k _ _ ?_)
    have hkM : ∀ b, b < w.heap.size → ¬ V b → w'.heap[b]? = w.heap[b]? := fun b hl hn => hk b hl fun h => hn (m.vm b h)
    have kv : Kept V (Or' V M') w w' := ⟨hsz, hkM, fun b hl h => h.elim id fun h => (hM' b h).1.elim (m.vm b) fun h => by omega⟩
    exact (hs.put hb _).mem' rfl (V := Or' V M') (U := fun b => U b ∧ V b) (M := M') ⟨fun b h => .inl (m.vx b h), fun b h => .inr h, fun b h => .inl (m.vb b h), fun b h => h.elim (fun h => Nat.lt_of_lt_of_le (m.vlt b h) hsz) fun h => (hM' b h).2, fun b h => ⟨m.ub b h, m.vb b h⟩, fun b h => Nat.lt_of_lt_of_le (m.ult b h.1) hsz,
      m.sep.keep fun b hb => hk b (m.sep.lt hb) (m.own b hb).2.2, fun b h => ⟨(m.own b h).1, (m.own b h).2.1, fun h' => (hM' b h').1.elim (m.own b h).2.2 fun h2 => by have := m.sep.lt h; omega⟩, fun φ hφ => φ.st kv (m.phi φ hφ),
      fun ψ hψ => (by cases hψ with
        | head => exact hJ'
        | tail _ h => cases h), c.G.st kv m.g, Nat.le_trans m.sz hsz, fun b h1 h2 h3 => (hk b (by have := m.sz; omega) fun h => (m.mo b h).elim h3 fun h => by omega).trans (m.frame b h1 h2 h3), m.xlt, fun b h => (hM' b h).1.elim (m.mo b) fun h => .inr (by have := m.sz; omega), m.io.trans hio⟩
end

/-! ### An iterator's entry and its end -/
def IQ (c : Ctx) (fn : Func) (B0 : List Own) {σ : Type} (J : σ → JR) (R : σ → List Own → List Res → Prop) : Post :=
  bodyPostM (Fr none) 0 c.P fn fun e w' => ∃ v s' M' B' Φ', e = .returned v ∧ R s' B' Φ' ∧ marks B' = [] ∧ Sep B' w' ∧ (∀ b, blks B' b → ¬ c.X b ∧ ¬ M' b ∧ (blks B0 b ∨ c.w0.heap.size ≤ b)) ∧
      (∀ φ ∈ Φ', φ.p (Or' (Or' c.X M') (blks B')) w') ∧ (J s').p M' (blks B') w' ∧ (∀ b, M' b → (c.Y b ∨ c.w0.heap.size ≤ b) ∧ b < w'.heap.size) ∧ (c.w0.heap.size ≤ w'.heap.size ∧ Io c.w0 w') ∧ ∀ b, b < c.w0.heap.size → ¬ blks B0 b → ¬ c.Y b → w'.heap[b]? = c.w0.heap[b]?

theorem ICtr.intro {P : Program} {G : Res} {f : FuncId} {fn : Func} {code : Code} {caps : List Value} {B : List Own} {Φ : List Res} {α : Type} {E : α → List Value → Res} {L : List α} {nt : Nat} {ρ : Nat → List (Nat × Value)}
    (hf : P.funcs[f]? = some fn) (hn : (fn.name == "runtime.NumGoroutine") = false) (hbody : fn.body = some code) (hnt : fn.ntmps = nt) (hm : marks B = []) (hle : Nat.ble (caps.length + 1) nt = true) (hρ : ∀ l, regs 0 (yv l :: caps) = ρ l)
    (h : ∀ (σ : Type) (J : σ → JR) (Y : σ → α → σ) (go : σ → Bool) (A : σ → α → Prop) (l : Nat) (s0 : σ) (w : World) (X M : Av), go s0 = true → Adm Y go A s0 L → Yields P l J E Y go A X → SW ⟨P, none, nt, w, X, blks B, M, G⟩ (ρ l) B Φ [J s0] code (IQ ⟨P, none, nt, w, X, blks B, M, G⟩ fn B J (over L σ Y go s0))) : ICtr P G f caps B Φ E L := by
  refine ⟨hm, enters_of hf hn hbody, fun σ J Y go A l s0 w X M hX hsep hdis hMX hphi hG hJ hgo hA hY => ?_⟩
  refine calls_fr (n := 0) (callsIn_of_wp_marks hf hbody trivial ?_ rfl)
  have hle' : caps.length + 1 ≤ nt := by simpa using hle
  refine h σ J Y go A l s0 w X M hgo hA hY _ w ⟨by simp [hnt]; omega, fun t v ht => ?_, hm.symm, Or' X (blks B), blks B, M, ?_⟩
  · rw [← hρ] at ht
    obtain ⟨_, h2⟩ := lk_regs (yv l :: caps) 0 t v ht
    have hlt : t < (yv l :: caps).length := by
      rcases Nat.lt_or_ge t (yv l :: caps).length with h | h
      · exact h
      · rw [Nat.sub_zero, List.getElem?_eq_none h] at h2; cases h2
    rw [Nat.sub_zero] at h2
    rw [Array.getD_eq_getD_getElem?, Array.getElem?_append_left (by simpa using hlt)]
    have : (yv l :: caps).toArray[t]? = some v := by simpa using h2
    rw [this]; rfl
  · exact ⟨fun b h => .inl h, fun b h => .inl (hMX b h), fun b h => .inr h, fun b h => h.elim (hX b) hsep.lt, fun b h => h, fun b h => hsep.lt h, hsep, fun b h => ⟨.inl h, hdis b h, fun h' => hdis b h (hMX b h')⟩, hphi, fun ψ h => (by cases h with
      | head => exact hJ
      | tail _ h => cases h), hG, Nat.le_refl _, fun _ _ _ _ => rfl, hX, fun b h => .inl h, Io.refl w⟩

theorem results_none {fn : Func} {P : Program} (h : fn.results = #[]) (tmps : Array Value) (w : World) : (results fn tmps).run P w = .ok (.tuple #[]) w := by
  simp [results, h]

section
variable {c : Ctx} {ρ : List (Nat × Value)} {B B0 B' : List Own} {Φ Φ' : List Res} {fn : Func}

theorem sp_iend {σ : Type} {J : σ → JR} {R : σ → List Own → List Res → Prop} {s' : σ} (hc : c.r = none) (hr : fn.results = #[]) (hK : c.K = blks B0) (hp : R s' B' Φ') (hB : B'.Sublist B) (hm : marks B' = []) (hΦ : ∀ φ ∈ Φ', φ ∈ Φ) (hmB : marks B = []) :
    ∀ a w, St c ρ B Φ [J s'] a w → LeavesInM (Fr none) 0 c.P fn a.tmps (fun e w' => ∃ v s' M' B' Φ', e = .returned v ∧ R s' B' Φ' ∧ marks B' = [] ∧ Sep B' w' ∧ (∀ b, blks B' b → ¬ c.X b ∧ ¬ M' b ∧ (blks B0 b ∨ c.w0.heap.size ≤ b)) ∧
      (∀ φ ∈ Φ', φ.p (Or' (Or' c.X M') (blks B')) w') ∧ (J s').p M' (blks B') w' ∧ (∀ b, M' b → (c.Y b ∨ c.w0.heap.size ≤ b) ∧ b < w'.heap.size) ∧ (c.w0.heap.size ≤ w'.heap.size ∧ Io c.w0 w') ∧ ∀ b, b < c.w0.heap.size → ¬ blks B0 b → ¬ c.Y b → w'.heap[b]? = c.w0.heap[b]?) a.defers .returning w := by
  intro a w hs
  obtain ⟨V, U, M, m⟩ := hs.mem
  rw [hs.dfr, show dfs c B = [] by unfold dfs; rw [hc]; exact hmB]
  have hsub : ∀ o ∈ B', o ∈ B := fun o ho => hB.subset ho
  have hbl : ∀ b, blks B' b → blks B b := fun b ⟨o, ho, e⟩ => ⟨o, hsub o ho, e⟩
  refine ⟨_, results_none hr a.tmps w, _, s', M, B', Φ', rfl, hp, hm, ⟨fun o ho => m.sep.holds o (hsub o ho), m.sep.apart.sublist hB⟩, fun b h => ?_, fun φ hφ => φ.less (m.phi φ (hΦ φ hφ)) fun b h => ?_, (J s').st ⟨Nat.le_refl _, fun _ _ _ => rfl, fun b _ h => m.ub b (hbl b h)⟩ (m.psi _ (.head _)), fun b h => ⟨m.mo b h, m.vlt b (m.vm b h)⟩, ⟨m.sz, m.io⟩, fun b h1 h2 h3 => m.frame b h1 (by rw [hK]; exact h2) h3⟩
  · obtain ⟨h1, h2, h3⟩ := m.own b (hbl b h)
    exact ⟨h2, h3, by rw [← hK]; exact h1⟩
  · rcases h with (h | h) | h
    · exact m.vx b h
    · exact m.vm b h
    · exact m.vb b (hbl b h)
theorem sp_iret {σ : Type} {J : σ → JR} {R : σ → List Own → List Res → Prop} {s' : σ} (hc : c.r = none) (hr : fn.results = #[]) (hK : c.K = blks B0) (hp : R s' B' Φ') (hB : B'.Sublist B) (hm : marks B' = []) (hΦ : ∀ φ ∈ Φ', φ ∈ Φ) (hmB : marks B = []) : SP c ρ B Φ [J s'] .ret (IQ c fn B0 J R) :=
  sp_iend hc hr hK hp hB hm hΦ hmB
theorem sp_inorm {σ : Type} {J : σ → JR} {R : σ → List Own → List Res → Prop} {s' : σ} (hc : c.r = none) (hr : fn.results = #[]) (hK : c.K = blks B0) (hp : R s' B' Φ') (hB : B'.Sublist B) (hm : marks B' = []) (hΦ : ∀ φ ∈ Φ', φ ∈ Φ) (hmB : marks B = []) : SP c ρ B Φ [J s'] .normal (IQ c fn B0 J R) :=
  sp_iend hc hr hK hp hB hm hΦ hmB
end

end Go.Proofs.YtjahiohlekdhoaaDoor
