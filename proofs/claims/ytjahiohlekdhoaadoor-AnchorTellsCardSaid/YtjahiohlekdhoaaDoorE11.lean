/-
  The engine, part 11: slices of bytes as lists; what an iterator over a list comes to.
-/
import Derived.Test.YtjahiohlekdhoaaDoorE10
namespace Go.Proofs.YtjahiohlekdhoaaDoor
open Go

/-- A slice of bytes: where it lies, how much it could hold, its bytes. -/
structure BS where
  ba : Option Addr
  cap : Nat
  xs : List UInt8
def BS.v (s : BS) : Value := .slice s.ba s.xs.length s.cap
def bv (xs : List UInt8) : List Value := xs.map v8
def BS.res (s : BS) : Res := Res.mem s.ba (bv s.xs)
/-- What a slice's numbers keep to. -/
def BS.ok (s : BS) : Prop := s.xs.length ≤ s.cap ∧ s.cap ≤ maxLen
theorem bv_len (xs : List UInt8) : (bv xs).length = xs.length := List.length_map _
theorem bv_get (xs : List UInt8) (i : Nat) (h : i < xs.length) : (bv xs)[i]? = some (v8 xs[i]) := by simp [bv, h]
theorem bv_one (xs : List UInt8) : (bv xs).all Value.oneCell' = true := by
  simp only [bv, List.all_map, List.all_eq_true]
  intro x _; rfl
theorem bv_append (xs ys : List UInt8) : bv (xs ++ ys) = bv xs ++ bv ys := List.map_append
theorem bv_cut (xs : List UInt8) (o n : Nat) : part' (bv xs) o n = bv ((xs.drop o).take n) := by simp [part', bv, List.map_drop, List.map_take]

/-- Where a loop over L is: what is left of it. -/
structure At {σ α : Type} (Y : σ → α → σ) (go : σ → Bool) (A : σ → α → Prop) (s0 : σ) (L : List α) (s : σ) (rest : List α) : Prop where
  go' : go s = true
  run : runs Y go s rest = runs Y go s0 L
  adm : Adm Y go A s rest
section
variable {σ α : Type} {Y : σ → α → σ} {go : σ → Bool} {A : σ → α → Prop} {s0 s : σ} {L rest : List α} {x : α}
theorem At.start (h : go s0 = true) (ha : Adm Y go A s0 L) : At Y go A s0 L s0 L := ⟨h, rfl, ha⟩
theorem At.give (h : At Y go A s0 L s (x :: rest)) : A s x := h.adm.1
theorem At.next (h : At Y go A s0 L s (x :: rest)) (hg : go (Y s x) = true) : At Y go A s0 L (Y s x) rest := ⟨hg, by rw [← h.run, runs_cons hg], h.adm.2 hg⟩
theorem At.stop (h : At Y go A s0 L s (x :: rest)) (hg : go (Y s x) = false) : Y s x = runs Y go s0 L := by rw [← h.run, runs_stop hg]
theorem At.done (h : At Y go A s0 L s []) : s = runs Y go s0 L := h.run
theorem At.of {rest' : List α} (h : At Y go A s0 L s rest) (e : rest = rest') : At Y go A s0 L s rest' := e ▸ h
end
theorem drop_cons {α : Type} (l : List α) (i : Nat) (h : i < l.length) : l.drop i = l[i] :: l.drop (i + 1) := List.drop_eq_getElem_cons h

def bElt (b : UInt8) (vs : List Value) : Res := Res.pure (vs = [v8 b])
section
variable {c : Ctx} {ρ : List (Nat × Value)} {B B' B0 Br : List Own} {Φ Φ' Φp : List Res} {Ψ : List JR} {Q : Post} {v : Value} {n e sz : Nat} {cs xs : List Value} {ex : Exit}
theorem sp_of_sl (h : ∀ {Q' : Post}, SL c ρ B' Φ' Ψ #[] [] Q' → SL c ρ B Φ Ψ #[] [] Q') (k : SP c ρ B' Φ' Ψ ex Q) : SP c ρ B Φ Ψ ex Q :=
  fun a w hs => h (Q' := fun _ a w => Q ex a w) (fun a w hs => k a w hs) a w hs
theorem sp_freeze {b : Nat} {bt : TypeId} (k : SP c ρ B (Res.mem (some ⟨b, 0, none⟩) cs :: Φ) Ψ ex Q) : SP c ρ (.box b cs bt :: B) Φ Ψ ex Q := sp_of_sl (fun h => o_freeze h) k
theorem sp_drop {o : Own} (hm : marks [o] = []) (k : SP c ρ B Φ Ψ ex Q) : SP c ρ (o :: B) Φ Ψ ex Q := sp_of_sl (fun h => o_drop hm h) k
theorem sp_perm {B' : List Own} (hp : B'.Perm B) (hm : marks B' = marks B) (k : SP c ρ B' Φ Ψ ex Q) : SP c ρ B Φ Ψ ex Q := sp_of_sl (fun h => o_perm hp h hm) k
theorem sp_eqB {B' : List Own} (hB : B = B') (k : SP c ρ B' Φ Ψ ex Q) : SP c ρ B Φ Ψ ex Q := hB ▸ k
theorem sp_row (k : ∀ ba cap, v = .slice ba n cap → n ≤ cap → cap ≤ maxLen → xs.length = n * sz → SP c ρ B (Res.mem ba xs :: Φ) Ψ ex Q) : SP c ρ (.row v n xs e sz :: B) Φ Ψ ex Q :=
  fun a w hs => o_row (ops := #[]) (rest := []) (Q := fun _ a w => Q ex a w) (fun ba cap h1 h2 h3 h4 a w hs => k ba cap h1 h2 h3 h4 a w hs) a w hs
end

/-- The k-th block in front; the block in front at the k-th place. -/
def pull (k : Nat) (B : List Own) : List Own := match B.drop k with
  | [] => B
  | x :: r => x :: (B.take k ++ r)
def push (k : Nat) : List Own → List Own
  | [] => []
  | x :: r => r.take k ++ x :: r.drop k
theorem pull_perm (k : Nat) (B : List Own) : (pull k B).Perm B := by
  unfold pull
  split
  · exact .refl _
  · rename_i x r h
    have : B.take k ++ x :: r = B := by rw [← h]; exact List.take_append_drop k B
    have h2 : (B.take k ++ x :: r).Perm B := by rw [this]
    exact (List.perm_middle.symm).trans h2
theorem push_perm (k : Nat) (B : List Own) : (push k B).Perm B := by
  cases B with
  | nil => exact .refl _
  | cons x r =>
    refine (List.perm_middle).trans ?_
    rw [List.take_append_drop]
section
variable {c : Ctx} {ρ : List (Nat × Value)} {B : List Own} {Φ : List Res} {Ψ : List JR} {ops : Array Oper} {rest : List Oper} {Q : Post} {ex : Exit}
theorem o_pull (k : Nat) (hm : marks (pull k B) = marks B) (h : SL c ρ (pull k B) Φ Ψ ops rest Q) : SL c ρ B Φ Ψ ops rest Q := o_perm (pull_perm k B) h hm
theorem o_push (k : Nat) (hm : marks (push k B) = marks B) (h : SL c ρ (push k B) Φ Ψ ops rest Q) : SL c ρ B Φ Ψ ops rest Q := o_perm (push_perm k B) h hm
theorem wo_pull (k : Nat) {code : Code} (hm : marks (pull k B) = marks B) (h : SW c ρ (pull k B) Φ Ψ code Q) : SW c ρ B Φ Ψ code Q := w_perm (pull_perm k B) h hm
theorem sp_pull (k : Nat) (hm : marks (pull k B) = marks B) (h : SP c ρ (pull k B) Φ Ψ ex Q) : SP c ρ B Φ Ψ ex Q := sp_perm (pull_perm k B) hm h
theorem sp_push (k : Nat) (hm : marks (push k B) = marks B) (h : SP c ρ (push k B) Φ Ψ ex Q) : SP c ρ B Φ Ψ ex Q := sp_perm (push_perm k B) hm h
end

section
variable {c : Ctx} {ρ : List (Nat × Value)} {B : List Own} {Φ Φp : List Res} {Q : Post}
/-- 'for .. := range g' where the iterator tells nothing but the state. -/
theorem sw_range0 {σ ι α : Type} {gf : FuncId} {g : Operand} {caps : List Value} {ps : List Tmp} {assign body : Code} {E : α → List Value → Res} {L : List α} {Bp : List Own}
    (hc : ICtr c.P c.G gf caps Bp Φp E L) (Bs : σ → ι → List Own) (Φs : σ → ι → List Res) (jmp : σ → Option Code) (Y : σ → α → σ) (A : σ → α → Prop) (s0 : σ) (i0 : ι)
    (hg : ev ρ g = some (.func (.func gf) #[] caps.toArray)) (hr : c.r = none) (hB : B = Bp ++ Bs s0 i0) (hA : Adm Y (fun s => (jmp s).isNone) A s0 L) (hj0 : jmp s0 = none) (hΦp : ∀ φ ∈ Φp, φ ∈ Φ) (hΦs : ∀ φ ∈ Φs s0 i0, φ ∈ Φ) (hmk : ∀ s i, marks (Bs s i) = marks (Bs s0 i0)) (hps : (ps.all fun p => Nat.blt p c.nt) = true) (hE : ∀ x vs V w, (E x vs).p V w → vs.length = ps.length)
    (hbody : ∀ (l mk : Nat) (rec : LoopState → Option Code → Loop) (w : World) (X U K : Av) (s : σ) (i : ι) (x : α) (vs : List Value), (∀ st j, rec st j = { rec .busy none with state := st, pending := j }) → jmp s = none → A s x → Tied ⟨c.P, some l, c.nt, w, X, K, NoAv, c.G⟩ c U →
      SW ⟨c.P, some l, c.nt, w, X, K, NoAv, c.G⟩ (pr ps vs ρ) (two rec l mk .ready none (Bs s i)) (E x vs :: Φs s i) [] assign (AQ ⟨c.P, some l, c.nt, w, X, K, NoAv, c.G⟩ l body (RQ ⟨c.P, some l, c.nt, w, X, K, NoAv, c.G⟩ c rec l mk Bs Φs jmp (Y s x) U)))
    (hend : ∀ s' i mk, s' = runs Y (fun s => (jmp s).isNone) s0 L → (jmp s' = none → SP c ρ (.mark mk :: Bs s' i) (Φs s' i) [] .normal Q) ∧ ∀ j, jmp s' = some j → SW c ρ (.mark mk :: Bs s' i) (Φs s' i) [] j Q) :
    SW c ρ B Φ [] (.rangeFunc g ps.toArray assign body) Q := by
  rw [hB]
  exact sw_range (Bp := Bp) hc hr hg Bs Φs jmp Y A s0 i0 hA hj0 hΦp hΦs hmk (fun p hp => by simpa using List.all_eq_true.1 hps p hp) hE hbody (by
    rintro s' i _ _ mk ⟨h1, rfl, rfl⟩
    exact hend s' i mk h1)
/-- The same of a loop that never stops. -/
theorem sw_rangeA {σ ι α : Type} {gf : FuncId} {g : Operand} {caps : List Value} {ps : List Tmp} {assign body : Code} {E : α → List Value → Res} {L : List α} {Bp : List Own}
    (hc : ICtr c.P c.G gf caps Bp Φp E L) (Bs : σ → ι → List Own) (Φs : σ → ι → List Res) (Y : σ → α → σ) (A : σ → α → Prop) (s0 : σ) (i0 : ι)
    (hg : ev ρ g = some (.func (.func gf) #[] caps.toArray)) (hr : c.r = none) (hB : B = Bp ++ Bs s0 i0) (hA : Adm Y (fun _ => true) A s0 L) (hΦp : ∀ φ ∈ Φp, φ ∈ Φ) (hΦs : ∀ φ ∈ Φs s0 i0, φ ∈ Φ) (hmk : ∀ s i, marks (Bs s i) = marks (Bs s0 i0)) (hps : (ps.all fun p => Nat.blt p c.nt) = true) (hE : ∀ x vs V w, (E x vs).p V w → vs.length = ps.length)
    (hbody : ∀ (l mk : Nat) (rec : LoopState → Option Code → Loop) (w : World) (X U K : Av) (s : σ) (i : ι) (x : α) (vs : List Value), (∀ st j, rec st j = { rec .busy none with state := st, pending := j }) → A s x → Tied ⟨c.P, some l, c.nt, w, X, K, NoAv, c.G⟩ c U →
      SW ⟨c.P, some l, c.nt, w, X, K, NoAv, c.G⟩ (pr ps vs ρ) (two rec l mk .ready none (Bs s i)) (E x vs :: Φs s i) [] assign (AQ ⟨c.P, some l, c.nt, w, X, K, NoAv, c.G⟩ l body (RQ ⟨c.P, some l, c.nt, w, X, K, NoAv, c.G⟩ c rec l mk Bs Φs (fun _ => none) (Y s x) U)))
    (hend : ∀ i mk, SP c ρ (.mark mk :: Bs (L.foldl Y s0) i) (Φs (L.foldl Y s0) i) [] .normal Q) :
    SW c ρ B Φ [] (.rangeFunc g ps.toArray assign body) Q :=
  sw_range0 hc Bs Φs (fun _ => none) Y A s0 i0 hg hr hB hA rfl hΦp hΦs hmk hps hE (fun l mk rec w X U K s i x vs hrec _ hAx ht => hbody l mk rec w X U K s i x vs hrec hAx ht) (by
    rintro s' i mk rfl
    have e : runs Y (fun _ : σ => (none : Option Code).isNone) s0 L = L.foldl Y s0 := runs_all (fun _ => rfl) L s0
    rw [e]
    exact ⟨fun _ => hend i mk, fun j h => by cases h⟩)
end

section
variable {c : Ctx} {ρ : List (Nat × Value)} {Bl : List Own} {Φ : List Res} {l mk : Nat} {rec : LoopState → Option Code → Loop} {body : Code} {R : Post}
/-- A round begins. -/
theorem sp_asgR (hrec : ∀ st j, rec st j = { rec .busy none with state := st, pending := j }) (hc : c.r = some l) (k : SW c ρ (two rec l mk .busy none Bl) Φ [] body R) : SP c ρ (two rec l mk .ready none Bl) Φ [] .normal (AQ c l body R) := by
  have h1 : (rec .ready none).state = .ready := by rw [hrec]
  have h2 : ({ rec .ready none with state := .busy } : Loop) = rec .busy none := by rw [hrec .ready none, hrec .busy none]
  refine sp_asg (r := rec .ready none) (B' := two rec l mk .busy none Bl) h1 ?_ hc k
  rw [h2]
  exact .hd
end
end Go.Proofs.YtjahiohlekdhoaaDoor
