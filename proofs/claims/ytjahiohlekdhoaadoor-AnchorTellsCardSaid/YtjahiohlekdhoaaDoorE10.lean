/-
  The engine, part 10: calls that tell a value alone; ends with several results, with results in variables; equality of strings, of aggregates.
-/
import Derived.Test.YtjahiohlekdhoaaDoorE9
namespace Go.Proofs.YtjahiohlekdhoaaDoor
open Go

/-- What is told is this value, and nothing else. -/
def ret1 (v : Value) : PostC := fun v' B' Φ' => v' = v ∧ B' = [] ∧ Φ' = []
/-- What is told is this value, of which these facts hold. -/
def retF (f : Value → List Res → Prop) : PostC := fun v' B' Φ' => B' = [] ∧ f v' Φ'

section
variable {c : Ctx} {ρ : List (Nat × Value)} {B B' B0 Br : List Own} {Φ Φ' Φp : List Res} {Ψ : List JR} {ops : Array Oper} {rest : List Oper} {Q : Post} {d ty t : Nat} {ps : String} {af : Array Edge} {x y z : Operand} {v u : Value} {xt yt : TypeId} {m n : Int} {kk : IntKind}

theorem r_call1 {f : FuncId} {args cap : List Value} {l : List Operand} {vs : List Value} {at' : Array TypeId} {fo : Operand} (hc : Ctr c.P c.G f args [] Φp (ret1 v)) (hf : ev ρ fo = some (.func (.func f) #[] cap.toArray) := by exact rfl) (hargs : evs ρ l = some vs := by exact rfl) (ha : args = vs ++ cap := by exact rfl)
    (hΦ : ∀ φ ∈ Φp, φ ∈ Φ := by simp) (hb : Nat.blt d c.nt = true := by exact rfl) (k : SL c ((d, v) :: ρ) B Φ Ψ ops rest Q) : SL c ρ B Φ Ψ ops (⟨some d, .call ⟨.value fo, l.toArray, at'⟩, ty, ps, af, none⟩ :: rest) Q :=
  r_call (Bp := []) (Br := B) hc hf hargs ha hΦ hb (by rintro _ _ _ ⟨rfl, rfl, rfl⟩; exact k)
theorem r_callF {f : FuncId} {args cap : List Value} {l : List Operand} {vs : List Value} {at' : Array TypeId} {fo : Operand} {F : Value → List Res → Prop} (hc : Ctr c.P c.G f args [] Φp (retF F)) (hf : ev ρ fo = some (.func (.func f) #[] cap.toArray) := by exact rfl) (hargs : evs ρ l = some vs := by exact rfl) (ha : args = vs ++ cap := by exact rfl)
    (hΦ : ∀ φ ∈ Φp, φ ∈ Φ := by simp) (hb : Nat.blt d c.nt = true := by exact rfl) (k : ∀ v Φ', F v Φ' → SL c ((d, v) :: ρ) B (Φ' ++ Φ) Ψ ops rest Q) : SL c ρ B Φ Ψ ops (⟨some d, .call ⟨.value fo, l.toArray, at'⟩, ty, ps, af, none⟩ :: rest) Q :=
  r_call (Bp := []) (Br := B) hc hf hargs ha hΦ hb (by rintro v _ Φ' ⟨rfl, h⟩; exact k v Φ' h)

/-- A result: a register's value, or a variable's. -/
inductive Res1 (P : Program) (ρ : List (Nat × Value)) (B : List Own) : ResultVar → Value → Prop
  | tmp {t : Nat} {v : Value} (h : lk ρ t = some v) : Res1 P ρ B (.tmp t) v
  | one {t b s : Nat} {ty bt : TypeId} {v : Value} (h : lk ρ t = some (.pointer (some ⟨b, 0, none⟩))) (hs : tSz P ty = some (false, s)) (hB : Own.box b [v] bt ∈ B) : Res1 P ρ B (.cell t ty) v
  | agg {t b s : Nat} {ty bt : TypeId} {cs : List Value} (h : lk ρ t = some (.pointer (some ⟨b, 0, none⟩))) (hs : tSz P ty = some (true, s)) (hl : cs.length = s) (hB : Own.box b cs bt ∈ B) : Res1 P ρ B (.cell t ty) (.agg cs.toArray)

def resOne (tmps : Array Value) : ResultVar → Sem Value
  | .tmp t => pure (tmps.getD t undef)
  | .cell a t => do loadVar t (← asAddr (tmps.getD a undef))
theorem results_eq (fn : Func) (tmps : Array Value) : results fn tmps = (do
    let vs ← fn.results.mapM (resOne tmps)
    pure (if h : vs.size = 1 then vs[0] else .tuple vs)) := rfl

theorem Res1.run {rv : ResultVar} {a : Act} {w w' : World} (h : Res1 c.P ρ B rv v) (hs : St c ρ B Φ Ψ a w) (hw : ∀ o ∈ B, marks [o] = [] → o.holds w') : (resOne a.tmps rv).run c.P w' = .ok v w' := by
  cases h with
  | tmp h =>
    have := hs.reg _ _ h
    rw [Array.getD_eq_getD_getElem?] at this
    simp [resOne, this]
  | one h hz hB =>
    have h1 := hs.reg _ _ h
    rw [Array.getD_eq_getD_getElem?] at h1
    simp [resOne, h1, asAddr, run_load_box_one hz (hw _ hB rfl) (off := 0) rfl]
  | agg h hz hl hB =>
    have h1 := hs.reg _ _ h
    rw [Array.getD_eq_getD_getElem?] at h1
    simp [resOne, h1, asAddr, run_load_box_agg hz (hw _ hB rfl) (off := 0) (by rw [List.drop_zero]; exact List.take_of_length_le (Nat.le_of_eq hl)) hl]

theorem results1 {fn : Func} {rv : ResultVar} {a : Act} {w w' : World} (hr : fn.results = #[rv]) (h : Res1 c.P ρ B rv v) (hs : St c ρ B Φ Ψ a w) (hw : ∀ o ∈ B, marks [o] = [] → o.holds w') : (results fn a.tmps).run c.P w' = .ok v w' := by
  have := h.run hs hw
  simp [results_eq, hr, this]
theorem results2 {fn : Func} {r1 r2 : ResultVar} {v1 v2 : Value} {a : Act} {w w' : World} (hr : fn.results = #[r1, r2]) (h1 : Res1 c.P ρ B r1 v1) (h2 : Res1 c.P ρ B r2 v2) (hs : St c ρ B Φ Ψ a w) (hw : ∀ o ∈ B, marks [o] = [] → o.holds w') : (results fn a.tmps).run c.P w' = .ok (.tuple #[v1, v2]) w' := by
  have h1 := h1.run hs hw
  have h2 := h2.run hs hw
  simp [results_eq, hr, h1, h2]
theorem results3 {fn : Func} {r1 r2 r3 : ResultVar} {v1 v2 v3 : Value} {a : Act} {w w' : World} (hr : fn.results = #[r1, r2, r3]) (h1 : Res1 c.P ρ B r1 v1) (h2 : Res1 c.P ρ B r2 v2) (h3 : Res1 c.P ρ B r3 v3) (hs : St c ρ B Φ Ψ a w) (hw : ∀ o ∈ B, marks [o] = [] → o.holds w') : (results fn a.tmps).run c.P w' = .ok (.tuple #[v1, v2, v3]) w' := by
  have h1 := h1.run hs hw
  have h2 := h2.run hs hw
  have h3 := h3.run hs hw
  simp [results_eq, hr, h1, h2, h3]

section
variable {fn : Func} {post : PostC}
theorem sp_retv {v : Value} {rv : ResultVar} (hc : c.r = none) (hr : fn.results = #[rv]) (hx : Res1 c.P ρ B rv v) (hK : c.K = blks B0) (hY : c.Y = NoAv) (hp : post v B' Φ') (hB : B'.Sublist B) (hm : marks B' = []) (hΦ : ∀ φ ∈ Φ', φ ∈ Φ) : SP c ρ B Φ Ψ .ret (FQ c fn B0 post) :=
  sp_end (B' := B') (v := v) hc (fun _ _ hs _ hw => results1 hr hx hs hw) hK hY hp hB hm hΦ
theorem sp_ret2 {v1 v2 : Value} {r1 r2 : ResultVar} (hc : c.r = none) (hr : fn.results = #[r1, r2]) (h1 : Res1 c.P ρ B r1 v1) (h2 : Res1 c.P ρ B r2 v2) (hK : c.K = blks B0) (hY : c.Y = NoAv) (hp : post (.tuple #[v1, v2]) B' Φ') (hB : B'.Sublist B) (hm : marks B' = []) (hΦ : ∀ φ ∈ Φ', φ ∈ Φ) : SP c ρ B Φ Ψ .ret (FQ c fn B0 post) :=
  sp_end (B' := B') hc (fun _ _ hs _ hw => results2 hr h1 h2 hs hw) hK hY hp hB hm hΦ
theorem sp_ret3 {v1 v2 v3 : Value} {r1 r2 r3 : ResultVar} (hc : c.r = none) (hr : fn.results = #[r1, r2, r3]) (h1 : Res1 c.P ρ B r1 v1) (h2 : Res1 c.P ρ B r2 v2) (h3 : Res1 c.P ρ B r3 v3) (hK : c.K = blks B0) (hY : c.Y = NoAv) (hp : post (.tuple #[v1, v2, v3]) B' Φ') (hB : B'.Sublist B) (hm : marks B' = []) (hΦ : ∀ φ ∈ Φ', φ ∈ Φ) : SP c ρ B Φ Ψ .ret (FQ c fn B0 post) :=
  sp_end (B' := B') hc (fun _ _ hs _ hw => results3 hr h1 h2 h3 hs hw) hK hY hp hB hm hΦ
end

/-- Registers one by one. -/
def LkAll (ρ : List (Nat × Value)) : List (Nat × Value) → Prop
  | [] => True
  | (k, v) :: r => lk ρ k = some v ∧ LkAll ρ r
theorem LkAll.all {ρ : List (Nat × Value)} : ∀ {ρ' : List (Nat × Value)}, LkAll ρ ρ' → ∀ p ∈ ρ', lk ρ p.1 = some p.2
  | [], _, _, h => by cases h
  | (k, v) :: r, h, p, hp => by
    cases hp with
    | head => exact h.1
    | tail _ hp => exact LkAll.all h.2 p hp
/-- Facts one by one. -/
def PhAll (Φ : List Res) : List Res → Prop
  | [] => True
  | φ :: r => φ ∈ Φ ∧ PhAll Φ r
theorem PhAll.all {Φ : List Res} : ∀ {Φ' : List Res}, PhAll Φ Φ' → ∀ φ ∈ Φ', φ ∈ Φ
  | [], _, _, h => by cases h
  | ψ :: r, h, p, hp => by
    cases hp with
    | head => exact h.1
    | tail _ hp => exact PhAll.all h.2 p hp
theorem Ent.mk' {ρ' : List (Nat × Value)} (hρ : LkAll ρ ρ') (hΦ : PhAll Φ Φ') : Ent c ρ B Φ Ψ ρ' B Φ' Ψ := Ent.mk hρ.all hΦ.all fun _ h => h
theorem Ent.perm {ρ' : List (Nat × Value)} {B' : List Own} (hp : B'.Perm B) (hm : marks B' = marks B) (h : Ent c ρ B' Φ Ψ ρ' B' Φ' Ψ) : Ent c ρ B Φ Ψ ρ' B' Φ' Ψ := fun a w hs => h a w (by
  obtain ⟨V, U, M, m⟩ := hs.mem
  have hbl : ∀ b, blks B' b → blks B b := fun b ⟨q, hq, e⟩ => ⟨q, hp.subset hq, e⟩
  exact ⟨hs.nt, hs.reg, hs.dfr.trans (dfs_of hm).symm, V, U, M, ⟨m.vx, m.vm, fun b h => m.vb b (hbl b h), m.vlt, fun b h => m.ub b (hbl b h), m.ult, ⟨fun q hq => m.sep.holds q (hp.subset hq), m.sep.apart.perm hp.symm (fun {x y} h b h1 h2 => h b h2 h1)⟩, fun b h => m.own b (hbl b h), m.phi, m.psi, m.g, m.sz, m.frame, m.xlt, m.mo, m.io⟩⟩)
theorem w_perm {B' : List Own} {code : Code} (hp : B'.Perm B) (k : SW c ρ B' Φ Ψ code Q) (hm : marks B' = marks B) : SW c ρ B Φ Ψ code Q := fun a w hs => o_perm (ops := #[]) (rest := []) (Q := fun _ a w => code.wpIn (Fr c.r) 0 c.P Q a w) hp (fun a w hs => k a w hs) hm a w hs
theorem w_drop {o : Own} {code : Code} (hm : marks [o] = []) (k : SW c ρ B Φ Ψ code Q) : SW c ρ (o :: B) Φ Ψ code Q := fun a w hs => o_drop (ops := #[]) (rest := []) (Q := fun _ a w => code.wpIn (Fr c.r) 0 c.P Q a w) hm (fun a w hs => k a w hs) a w hs
/-- A state told anew: what is live. -/
theorem w_live (ρ' : List (Nat × Value)) (Φ' : List Res) {code : Code} (hρ : LkAll ρ ρ') (hΦ : PhAll Φ Φ') (k : SW c ρ' B Φ' Ψ code Q) : SW c ρ B Φ Ψ code Q := sw_weak (lk_of_all hρ.all) hΦ.all k
theorem l_live (ρ' : List (Nat × Value)) (Φ' : List Res) (hρ : LkAll ρ ρ') (hΦ : PhAll Φ Φ') (k : SL c ρ' B Φ' Ψ ops rest Q) : SL c ρ B Φ Ψ ops rest Q := fun a w hs => k a w (Ent.mk' (Ψ := Ψ) (c := c) (B := B) hρ hΦ a w hs)

/-- A post's code is weakened: a state's end told by another one. -/
theorem sp_mono {Q' : Post} {e : Exit} (h : ∀ a w, Q' e a w → Q e a w) (k : SP c ρ B Φ Ψ e Q') : SP c ρ B Φ Ψ e Q := fun a w hs => h a w (k a w hs)
end
end Go.Proofs.YtjahiohlekdhoaaDoor
