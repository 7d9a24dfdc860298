/-
  The engine, part 8: a region that draws the order of its operations: operations that only read are taken first; of the others every order is gone through.
-/
import Derived.Test.YtjahiohlekdhoaaDoorE7
namespace Go.Proofs.YtjahiohlekdhoaaDoor
open Go

/-- An operation that runs to a value wherever the state holds, the world as it was. -/
def Qt (c : Ctx) (ρ : List (Nat × Value)) (B : List Own) (Φ : List Res) (Ψ : List JR) (o : Op) (ty : TypeId) (v : Value) : Prop :=
  ∀ a w, St c ρ B Φ Ψ a w → ∀ d ps af g, (execOp a.eval ⟨d, o, ty, ps, af, g⟩).run c.P w = .ok (.value v) w

def MI (c : Ctx) (B : List Own) (Φ : List Res) (Ψ : List JR) (w : World) : Prop := ∃ V U M, MS c B Φ Ψ V U M w

theorem execOp_pos (e : Operand → Value) (d d' : Option Tmp) (o : Op) (ty : TypeId) (ps ps' : String) (af af' : Array Edge) (g g' : Option (Nat × Bool)) :
    execOp e ⟨d, o, ty, ps, af, g⟩ = execOp e ⟨d', o, ty, ps', af', g'⟩ := by
  unfold execOp
  cases o <;> rfl

/-- Out of a rule for one operation in a plain region: what it says of the run. -/
def okOps (l : List Oper) : Bool := (l.zipIdx.all fun p => p.1.after.all fun e => !Region.binds .any e || Nat.blt e.on p.2) && l.all fun o => match o.op with | .select _ _ | .defer _ => false | _ => true

def rdy (ops : Array Oper) (todo : List Nat) (i : Nat) : Bool := match ops[i]? with
  | some o => o.after.all fun e => !Region.binds .any e || !(todo.contains e.on)
  | none => false

def WAI (P : Program) (r : Option Nat) (ops : Array Oper) (Q : Post) (I : List Nat → World → Prop) : Nat → List Nat → Act → World → Prop
  | 0, todo, a, w => todo = [] ∧ Q .normal a w
  | n + 1, todo, a, w => (todo = [] → Q .normal a w) ∧ ∀ i ∈ todo, rdy ops todo i = true → wpOpIn (Fr r) 0 P ops Q i (fun a' w' => I (todo.erase i) w' ∧ WAI P r ops Q I n (todo.erase i) a' w') a w

section
variable {P : Program} {r : Option Nat} {ops : Array Oper} {Q : Post} {I : List Nat → World → Prop} {RI : World → Prop}

theorem min_of : ∀ (l : List Nat), l ≠ [] → ∃ m ∈ l, ∀ k ∈ l, m ≤ k
  | [], h => absurd rfl h
  | [x], _ => ⟨x, .head _, fun k hk => by simp at hk; omega⟩
  | x :: y :: l, _ => by
    obtain ⟨m, hm, hle⟩ := min_of (y :: l) (by simp)
    by_cases h : x ≤ m
    · exact ⟨x, .head _, fun k hk => by
        cases hk with
        | head => exact Nat.le_refl _
        | tail _ hk => exact Nat.le_trans h (hle k hk)⟩
    · exact ⟨m, .tail _ hm, fun k hk => by
        cases hk with
        | head => omega
        | tail _ hk => exact hle k hk⟩

theorem wai_sound (hok : okOps ops.toList = true) : ∀ (n : Nat) (todo : List Nat) (listed : Array Bool) (a : Act) (w : World), listed.size = ops.size → todo.Nodup → (∀ i ∈ todo, i < ops.size) → (∀ i, i < ops.size → (listed.getD i true = false ↔ i ∈ todo)) →
    todo.length ≤ n → WAI P r ops Q I n todo a w → wpAnyIn (Fr r) 0 P .any ops Q n listed a w := by
  have hedge : ∀ (i : Nat) (o : Oper), ops[i]? = some o → ∀ e ∈ o.after, Region.binds .any e = true → e.on < i := fun i o ho e he hb => by
    have h1 := (Bool.and_eq_true _ _ ▸ hok).1
    have h2 := List.all_eq_true.1 h1 (o, i) (by
      rw [List.mem_zipIdx_iff_getElem?]; simpa using ho)
    have h3 := (Array.all_eq_true_iff_forall_mem.1 h2) e he
    simpa [Nat.blt_eq, hb] using h3
  have hnone : ∀ (todo : List Nat) (listed : Array Bool), listed.size = ops.size → (∀ i ∈ todo, i < ops.size) → (∀ i, i < ops.size → (listed.getD i true = false ↔ i ∈ todo)) → Region.ready .any ops listed = [] → todo = [] := by
    intro todo listed hsz hlt hl hr
    by_cases h : todo = []
    · exact h
    · obtain ⟨m, hm, hle⟩ := min_of todo h
      have hmlt := hlt m hm
      have : m ∈ Region.ready .any ops listed := mem_ready.2 ⟨(hl m hmlt).2 hm, ops[m], Array.getElem?_eq_getElem hmlt, fun e he hb => by
        have h1 := hedge m _ (Array.getElem?_eq_getElem hmlt) e he hb
        have h2 : e.on < ops.size := by omega
        have h3 : ¬ e.on ∈ todo := fun h => by have := hle _ h; omega
        have h4 : ¬ listed.getD e.on true = false := fun h => h3 ((hl _ h2).1 h)
        have h5 : e.on < listed.size := by omega
        simp only [Array.getD_eq_getD_getElem?, Array.getElem?_eq_getElem h5, Option.getD_some] at h4 ⊢
        simpa using h4⟩
      rw [hr] at this; cases this
  intro n
  induction n with
  | zero =>
    intro todo listed a w hsz hnd hlt hl hn h
    obtain ⟨h0, hq⟩ := h
    refine ⟨?_, hq⟩
    subst h0
    unfold Region.ready
    rw [List.filter_eq_nil_iff]
    intro i hi
    have hi' : i < ops.size := List.mem_range.1 hi
    have : listed.getD i true ≠ false := fun h => by have := (hl i hi').1 h; cases this
    simp only [Bool.and_eq_true, Bool.not_eq_true', not_and]
    intro h; exact absurd h this
  | succ n ih =>
    intro todo listed a w hsz hnd hlt hl hn h
    obtain ⟨hq, hall⟩ := h
    refine ⟨fun hr => hq (hnone todo listed hsz hlt hl hr), fun i hi => ?_⟩
    obtain ⟨h1, o, ho, h2⟩ := mem_ready.1 hi
    have hilt : i < ops.size := (Array.getElem?_eq_some_iff.1 ho).1
    have hit : i ∈ todo := (hl i hilt).1 h1
    have hrd : rdy ops todo i = true := by
      unfold rdy
      rw [ho]
      refine Array.all_eq_true_iff_forall_mem.2 fun e he => ?_
      cases hb : Region.binds .any e with
      | false => simp
      | true =>
        have h3 := h2 e he hb
        have h4 := hedge i o ho e he hb
        have h5 : ¬ e.on ∈ todo := fun h => by
          have := (hl e.on (by omega)).2 h
          have h6 : e.on < listed.size := by omega
          simp only [Array.getD_eq_getD_getElem?, Array.getElem?_eq_getElem h6, Option.getD_some] at this h3
          rw [this] at h3; cases h3
        simpa using h5
    refine wpOpIn_mono (fun a' w' h3 => ih (todo.erase i) (listed.setIfInBounds i true) a' w' (by simpa using hsz) (hnd.erase i) (fun j hj => hlt j (List.mem_of_mem_erase hj)) (fun j hj => ?_) ?_ h3.2) (hall i hit hrd)
    · by_cases hij : i = j
      · subst hij
        have h6 : i < listed.size := by omega
        have : (listed.setIfInBounds i true).getD i true = true := by simp [h6]
        rw [this]
        simp [hnd.mem_erase_iff]
      · rw [getD_set_ne true hij, hl j hj, hnd.mem_erase_iff]
        exact ⟨fun h => ⟨fun e => hij e.symm, h⟩, fun h => h.2⟩
    · have := List.length_erase_of_mem hit
      omega

/-- Wherever I holds this operation yields v. -/
def YQ (P : Program) (ops : Array Oper) (I : World → Prop) (o : Oper) (v : Value) (a : Act) : Prop :=
  (Region.wanted o (yielded ops a.tmps) = true ∧ ∀ w, I w → (execOp a.eval o).run P w = .ok (.value v) w) ∨ (Region.wanted o (yielded ops a.tmps) = false ∧ v = undef)

theorem YQ.of_same {o : Oper} {v : Value} {a a' : Act} (hy : YQ P ops RI o v a) (he : execOp a'.eval o = execOp a.eval o) (hw : Region.wanted o (yielded ops a'.tmps) = Region.wanted o (yielded ops a.tmps)) : YQ P ops RI o v a' := by
  unfold YQ at *
  rw [he, hw]
  exact hy

theorem YQ.now {i : Nat} {o : Oper} {v : Value} {a : Act} {w : World} {K : Act → World → Prop} (hi : ops[i]? = some o) (hnd : ∀ c, o.op ≠ .defer c) (hy : YQ P ops RI o v a) (hI : RI w) (h : K (a.put o.dst v) w) : wpOpIn (Fr r) 0 P ops Q i K a w := by
  unfold wpOpIn
  simp only [hi]
  rcases hy with ⟨hw, hv⟩ | ⟨hw, rfl⟩
  · simp only [hw, if_true]
    exact op_value hnd (hv w hI) h
  · simp only [hw, Bool.false_eq_true, if_false]
    exact ⟨fun _ _ => trivial, h⟩

theorem wpOp_put' {j : Nat} {oi oj : Oper} {v : Value} (hj : ops[j]? = some oj) (hap : oi.apart ops oj = true) (hsi : ∀ cs b, oi.op ≠ .select cs b) (hsj : ∀ cs b, oj.op ≠ .select cs b) (hdj : ∀ c, oj.op ≠ .defer c)
    (hQ : ∀ c a w, Q (.panic c) (a.put oi.dst v) w → Q (.panic c) a w) {K : Act → World → Prop} {a : Act} {w : World} (hy : YQ P ops RI oi v a) (h : wpOpIn (Fr r) 0 P ops Q j K (a.put oi.dst v) w) :
    wpOpIn (Fr r) 0 P ops Q j (fun a' w' => YQ P ops RI oi v a' ∧ K (a'.put oi.dst v) w') a w := by
  obtain ⟨h1, h2, h3⟩ := Oper.apart_spec hap
  have keep : ∀ (a : Act), YQ P ops RI oi v a → ∀ u, YQ P ops RI oi v (a.put oj.dst u) := fun a hy u =>
    hy.of_same (execOp_put oi hsi a oj.dst u h3) (wanted_put oi a oj.dst u h3)
  have keepD : ∀ d, YQ P ops RI oi v { a with defers := d :: a.defers } := fun d => hy.of_same rfl rfl
  have hsem : ∀ e, oj.semAt (Fr r).round e = execOp e oj := fun e => Oper.semAt_eq _ _ _ hdj
  unfold wpOpIn at *
  simp only [hj] at *
  rw [wanted_put oj a oi.dst v h1, about_put oj w a oi.dst v h1] at h
  split
  · rename_i hw
    simp only [hw, if_true] at h
    unfold Oper.wpIn at *
    rw [about_put oj w a oi.dst v h1] at h
    refine ⟨h.1, ?_⟩
    have h := h.2
    rw [hsem, execOp_put oj hsj a oi.dst v h1] at h
    rw [hsem]
    generalize (execOp a.eval oj).run P w = r at *
    cases r with
    | ok x w' =>
      cases x <;> simp only [Oper.uponIn] at h ⊢
      case value u => exact ⟨keep a hy u, by rw [← Act.put_comm a v u h2]; exact h⟩
      case skip => exact ⟨keep a hy _, by rw [← Act.put_comm a v undef h2]; exact h⟩
      case defer d =>
        refine ⟨keep _ (keepD d) _, ?_⟩
        rw [← Act.put_comm _ v undef h2, ← Act.put_defers]
        exact h
      case enter f args =>
        refine ⟨h.1, CallsIn.mono h.2 fun e w'' he => ?_⟩
        cases e with
        | returned u => exact ⟨keep a hy u, by rw [← Act.put_comm a v u h2]; exact he⟩
        | panicked c => exact hQ _ _ _ he
        | outgrown => exact he
      case row row args => exact ⟨h.1, RowsIn.mono h.2 fun u w'' he => ⟨keep a hy u, by rw [← Act.put_comm a v u h2]; exact he⟩⟩
      case round l f tmps assign body =>
        refine ⟨h.1, RoundIn.mono h.2 fun e w'' he => ?_⟩
        cases e with
        | returned u => exact ⟨keep a hy u, by rw [← Act.put_comm a v u h2]; exact he⟩
        | panicked c => exact hQ _ _ _ he
        | outgrown => exact he
    | halt x w' =>
      cases x <;> simp only [Oper.uponIn] at h ⊢
      case panic u => exact hQ _ _ _ h
  · rename_i hw
    simp only [hw] at h
    exact ⟨h.1, keep a hy _, by rw [← Act.put_comm a v undef h2]; exact h.2⟩

theorem wai_first {i : Nat} {Kd : List Nat} (hRI : ∀ t w, I t w → (∀ k ∈ Kd, k ∈ t) → RI w) (hIi : ∀ t w, I (t.erase i) w → I t w) {oi : Oper} {v : Value} (hi : ops[i]? = some oi) (hok : okOps ops.toList = true) (hQ : ∀ c a w, Q (.panic c) (a.put oi.dst v) w → Q (.panic c) a w) :
    ∀ (n : Nat) (todo : List Nat) (a : Act) (w : World), todo.Nodup → i ∈ todo → todo.length ≤ n → rdy ops todo i = true → YQ P ops RI oi v a → I (todo.erase i) w → (∀ k ∈ Kd, k ∈ todo ∧ k ≠ i ∧ ∀ ok, ops[k]? = some ok → ∃ e ∈ ok.after, Region.binds .any e = true ∧ e.on = i) →
      (∀ j ∈ todo, j ≠ i → ∀ oj, ops[j]? = some oj → (oi.apart ops oj = true ∨ ∃ e ∈ oj.after, Region.binds .any e = true ∧ e.on = i)) →
      WAI P r ops Q I (n - 1) (todo.erase i) (a.put oi.dst v) w → WAI P r ops Q I n todo a w := by
  have hkind : ∀ (j : Nat) (o : Oper), ops[j]? = some o → (∀ cs b, o.op ≠ .select cs b) ∧ ∀ c, o.op ≠ .defer c := fun j o ho => by
    have h1 := (Bool.and_eq_true _ _ ▸ hok).2
    have h2 := List.all_eq_true.1 h1 o (by
      have := Array.mem_of_getElem? ho
      simpa using this)
    constructor
    · intro cs b e; rw [e] at h2; cases h2
    · intro c e; rw [e] at h2; cases h2
  intro n
  induction n with
  | zero =>
    intro todo a w _ hmem hlen
    cases todo with
    | nil => cases hmem
    | cons x l => simp at hlen
  | succ n ih =>
    intro todo a w hnd hmem hlen hr hy hI hK hap H
    have hRw : RI w := hRI _ _ hI fun k hk => (List.mem_erase_of_ne (hK k hk).2.1).2 (hK k hk).1
    refine ⟨fun h0 => (by rw [h0] at hmem; cases hmem), fun j hj hjr => ?_⟩
    by_cases hji : j = i
    · subst hji
      exact hy.now hi (hkind j oi hi).2 hRw ⟨hI, by simpa using H⟩
    · -- j comes first
      have hjo : ∃ oj, ops[j]? = some oj := by
        unfold rdy at hjr
        split at hjr
        · exact ⟨_, by assumption⟩
        · cases hjr
      obtain ⟨oj, hoj⟩ := hjo
      have hnot : ¬ ∃ e ∈ oj.after, Region.binds .any e = true ∧ e.on = i := by
        rintro ⟨e, he, hb, hon⟩
        unfold rdy at hjr
        rw [hoj] at hjr
        have := (Array.all_eq_true_iff_forall_mem.1 hjr) e he
        rw [hb, hon] at this
        simp [hmem] at this
      have hapj := (hap j hj hji oj hoj).resolve_right hnot
      have hje : j ∈ todo.erase i := (List.mem_erase_of_ne hji).2 hj
      have hrj : rdy ops (todo.erase i) j = true := by
        unfold rdy at hjr ⊢
        rw [hoj] at hjr ⊢
        refine Array.all_eq_true_iff_forall_mem.2 fun e he => ?_
        have := (Array.all_eq_true_iff_forall_mem.1 hjr) e he
        cases hb : Region.binds .any e with
        | false => simp
        | true =>
          rw [hb] at this
          have h7 : ¬ e.on ∈ todo := by simpa using this
          have h8 : ¬ e.on ∈ todo.erase i := fun h => h7 (List.mem_of_mem_erase h)
          simpa using h8
      have hn1 : ∃ m, n = m + 1 := by
        have := List.length_erase_of_mem hmem
        have h9 : 0 < (todo.erase i).length := List.length_pos_of_mem hje
        exact ⟨n - 1, by omega⟩
      obtain ⟨m, rfl⟩ := hn1
      have h1 := H.2 j hje hrj
      have h2 := wpOp_put' hoj hapj (hkind i oi hi).1 (hkind j oj hoj).1 (hkind j oj hoj).2 hQ hy h1
      have hie : i ∈ todo.erase j := (List.mem_erase_of_ne (Ne.symm hji)).2 hmem
      have hri : rdy ops (todo.erase j) i = true := by
        unfold rdy at hr ⊢
        rw [hi] at hr ⊢
        refine Array.all_eq_true_iff_forall_mem.2 fun e he => ?_
        have := (Array.all_eq_true_iff_forall_mem.1 hr) e he
        cases hb : Region.binds .any e with
        | false => simp
        | true =>
          rw [hb] at this
          have h7 : ¬ e.on ∈ todo := by simpa using this
          have h8 : ¬ e.on ∈ todo.erase j := fun h => h7 (List.mem_of_mem_erase h)
          simpa using h8
      refine wpOpIn_mono (fun a' w' h3 => ⟨hIi _ _ (by rw [List.erase_comm]; exact h3.2.1), ih (todo.erase j) a' w' (hnd.erase j) hie (by have := List.length_erase_of_mem hj; omega) hri h3.1 (by rw [List.erase_comm]; exact h3.2.1) (fun k hk => ⟨(List.mem_erase_of_ne fun e => hnot (by subst e; exact (hK k hk).2.2 oj hoj)).2 (hK k hk).1, (hK k hk).2⟩) (fun k hk hki ok hok' => hap k (List.mem_of_mem_erase hk) hki ok hok') ?_⟩) h2
      rw [List.erase_comm]
      exact h3.2.2
end

def Nodup' : List Nat → Bool
  | [] => true
  | x :: l => !(l.contains x) && Nodup' l
theorem nodup_of : ∀ {l : List Nat}, Nodup' l = true → l.Nodup
  | [], _ => List.nodup_nil
  | x :: l, h => by
    have h' := Bool.and_eq_true _ _ ▸ h
    exact List.nodup_cons.2 ⟨by simpa using h'.1, nodup_of h'.2⟩

/-! ### The same over symbolic states -/
/-- Blocks that hold what they hold till an operation (if any) has been done. -/
def pick (L : List (Option Nat × Own)) (t : List Nat) : List Own := L.filterMap fun p => match p.1 with
  | none => some p.2
  | some k => bif t.contains k then some p.2 else none
def It (c : Ctx) (L : List (Option Nat × Own)) (Φ : List Res) (Ψ : List JR) (t : List Nat) (w : World) : Prop := MI c (pick L t) Φ Ψ w

def RA (c : Ctx) (I : List Nat → World → Prop) (ρ : List (Nat × Value)) (B : List Own) (Φ : List Res) (Ψ : List JR) (ops : Array Oper) (todo : List Nat) (Q : Post) : Prop :=
  ∀ a w, St c ρ B Φ Ψ a w → WAI c.P c.r ops Q I todo.length todo a w

/-- What is asked behind an operation that came next. -/
def NX (c : Ctx) (I : List Nat → World → Prop) (ops : Array Oper) (todo : List Nat) (Q : Post) : Post
  | .normal, a, w => I todo w ∧ WAI c.P c.r ops Q I todo.length todo a w
  | e, a, w => Q e a w

/-- A post that no panic meets. -/
def NP (Q : Post) : Post
  | .panic _, _, _ => False
  | e, a, w => Q e a w
theorem NP.imp {Q : Post} : ∀ e a w, NP Q e a w → Q e a w := fun e a w h => by
  cases e <;> first | exact h | exact h.elim

theorem mi_sub {c : Ctx} {B B0 : List Own} {Φ Φ0 : List Res} {Ψ : List JR} (hB : B0.Sublist B) (hΦ : ∀ φ ∈ Φ0, φ ∈ Φ) {w : World} (h : MI c B Φ Ψ w) : MI c B0 Φ0 Ψ w := by
  obtain ⟨V, U, M, m⟩ := h
  have hbl : ∀ b, blks B0 b → blks B b := fun b ⟨o, ho, e⟩ => ⟨o, hB.subset ho, e⟩
  exact ⟨V, U, M, ⟨m.vx, m.vm, fun b h => m.vb b (hbl b h), m.vlt, fun b h => m.ub b (hbl b h), m.ult, ⟨fun o ho => m.sep.holds o (hB.subset ho), m.sep.apart.sublist hB⟩, fun b h => m.own b (hbl b h), fun φ hφ => m.phi φ (hΦ φ hφ), m.psi, m.g, m.sz, m.frame, m.xlt, m.mo, m.io⟩⟩

theorem pick_sub {N L : List (Option Nat × Own)} (h : N.Sublist L) (t : List Nat) : (pick N t).Sublist (pick L t) := h.filterMap _
theorem pick_all : ∀ {N : List (Option Nat × Own)} {t : List Nat}, (∀ k ∈ N.filterMap (·.1), k ∈ t) → pick N t = N.map (·.2)
  | [], _, _ => rfl
  | (none, o) :: r, t, h => by
    have ih := pick_all (N := r) (t := t) (fun k hk => h k (by simpa using hk))
    unfold pick at ih ⊢
    simp only [List.filterMap_cons, List.map_cons, ih]
  | (some k, o) :: r, t, h => by
    have ih := pick_all (N := r) (t := t) (fun k hk => h k (by simp only [List.filterMap_cons]; exact List.mem_cons_of_mem _ hk))
    have hk : t.contains k = true := by simpa using h k (by simp)
    unfold pick at ih ⊢
    simp only [List.filterMap_cons, List.map_cons, ih, hk, cond_true]
theorem pick_erase {i : Nat} : ∀ {L : List (Option Nat × Own)} {t : List Nat}, (L.all fun p => match p.1 with | none => true | some k => !(Nat.beq k i)) = true → pick L (t.erase i) = pick L t
  | [], _, _ => rfl
  | (none, o) :: r, t, h => by
    have h' := (Bool.and_eq_true _ _ ▸ (List.all_cons ▸ h : (_ && r.all _) = true))
    have ih := pick_erase (L := r) (t := t) h'.2
    unfold pick at ih ⊢
    simp only [List.filterMap_cons, ih]
  | (some k, o) :: r, t, h => by
    have h' := (Bool.and_eq_true _ _ ▸ (List.all_cons ▸ h : (_ && r.all _) = true))
    have ih := pick_erase (L := r) (t := t) h'.2
    have hne : ¬ k = i := ne_of_beq (by simpa using h'.1)
    have e : (t.erase i).contains k = t.contains k := by
      have := List.mem_erase_of_ne (l := t) hne
      cases h1 : t.contains k <;> cases h2 : (t.erase i).contains k <;> simp_all
    unfold pick at ih ⊢
    simp only [List.filterMap_cons, ih, e]

def edgeTo (ops : Array Oper) (k i : Nat) : Bool := match ops[k]? with
  | some o => o.after.toList.any fun e => Region.binds .any e && Nat.beq e.on i
  | none => false

section
variable {c : Ctx} {ρ ρ0 : List (Nat × Value)} {B B0 : List Own} {Φ Φ0 : List Res} {Ψ : List JR} {ops : Array Oper} {todo todo' : List Nat} {Q : Post} {I : List Nat → World → Prop} {L : List (Option Nat × Own)}

theorem sw_draw {id : Nat} {l : List Oper} (L : List (Option Nat × Own)) (Φ0 : List Res) (todo : List Nat) (hm : c.P.follows .mixedOrders = true) (hok : okOps l = true) (htodo : List.range l.length = todo) (h : RA c (It c L Φ0 Ψ) ρ B Φ Ψ l.toArray todo (NP Q)) : SW c ρ B Φ Ψ (.region id l.toArray true) Q := fun a w hs => by
  refine wpIn_mono (wpIn_region_any hm (wai_sound (Q := NP Q) (I := It c L Φ0 Ψ) (by simpa using hok) _ todo _ _ _ (by simp) (by rw [← htodo]; exact List.nodup_range) (fun i hi => by rw [← htodo] at hi; simpa using hi) (fun i hi => ?_) (by rw [← htodo]; simp) ?_)) (fun e a w h => NP.imp e a w h)
  · have : (Array.replicate l.toArray.size false).getD i true = false := by
      have h' : i < l.length := by simpa using hi
      simp [Array.getD_eq_getD_getElem?, h']
    rw [this, ← htodo]
    simpa using hi
  · have hlen : l.toArray.size = todo.length := by rw [← htodo]; simp
    rw [hlen]
    obtain ⟨V, U, M, m⟩ := hs.mem
    have kd : ∀ V : Av, Kept V V w w.drew := fun V => ⟨Nat.le_refl _, fun _ _ _ => rfl, fun _ _ h => h⟩
    exact h a w.drew ⟨hs.nt, hs.reg, hs.dfr, V, U, M, ⟨m.vx, m.vm, m.vb, m.vlt, m.ub, m.ult, m.sep.keep fun _ _ => rfl, m.own, fun φ hφ => φ.st (kd V) (m.phi φ hφ), fun ψ hψ => ψ.st (kd U) (m.psi ψ hψ), c.G.st (kd V) m.g, m.sz, m.frame, m.xlt, m.mo, m.io⟩⟩

theorem ra_done (h : SP c ρ B Φ Ψ .normal Q) : RA c I ρ B Φ Ψ ops [] (NP Q) := fun a w hs => ⟨rfl, h a w hs⟩

/-- The facts that hold all through a region. -/
theorem mi_of (hB : B0.Sublist B) (hΦ : ∀ φ ∈ Φ0, φ ∈ Φ) {a : Act} {w : World} (hs : St c ρ B Φ Ψ a w) : MI c B0 Φ0 Ψ w := mi_sub hB hΦ hs.mem

theorem eval_defers (a : Act) (ds : List Deferred) : ({ a with defers := ds } : Act).eval = a.eval := by
  funext x; cases x <;> rfl

/-- An operation that only reads is taken first. -/
theorem ra_core {i : Nat} {d : Nat} {oi : Oper} {v : Value} {todo' : List Nat} {N : List (Option Nat × Own)} (ho : ops[i]? = some oi) (hd : oi.dst = some d) (hok : okOps ops.toList = true) (hnd : Nodup' todo = true) (hin : todo.contains i = true) (hr : rdy ops todo i = true)
    (hap : (todo.all fun j => Nat.beq j i || match ops[j]? with | some oj => Oper.apart ops oi oj || oj.after.toList.any (fun e => Region.binds .any e && Nat.beq e.on i) | none => true) = true) (hb : Nat.blt d c.nt = true)
    (he : todo.erase i = todo') (hB : (pick L todo').Sublist B) (hΦ : ∀ φ ∈ Φ0, φ ∈ Φ) (hLi : (L.all fun p => match p.1 with | none => true | some k => !(Nat.beq k i)) = true) (hN : N.Sublist L)
    (hK : ((N.filterMap (·.1)).all fun k => todo.contains k && (!(Nat.beq k i) && edgeTo ops k i)) = true)
    (hq : ∀ a w, St c ρ B Φ Ψ a w → YQ c.P ops (MI c (N.map (·.2)) Φ0 Ψ) oi v a) (k : RA c (It c L Φ0 Ψ) ((d, v) :: ρ) B Φ Ψ ops todo' (NP Q)) : RA c (It c L Φ0 Ψ) ρ B Φ Ψ ops todo (NP Q) := fun a w hs => by
  have hmem : i ∈ todo := by simpa using hin
  refine wai_first (RI := MI c (N.map (·.2)) Φ0 Ψ) (Kd := N.filterMap (·.1)) (oi := oi) (v := v) (fun t w h hk => ?_) (fun t w h => ?_) ho hok (fun cc a w h => h.elim) todo.length todo a w (nodup_of hnd) hmem (Nat.le_refl _) hr (hq a w hs) ?_ (fun k hk => ?_) (fun j hj hji oj hoj => ?_) ?_
  · have h1 : (N.map (·.2)).Sublist (pick L t) := by
      rw [← pick_all hk]; exact pick_sub hN t
    exact mi_sub h1 (fun _ h => h) h
  · unfold It at h ⊢
    rwa [pick_erase hLi] at h
  · rw [he]; exact mi_of hB hΦ hs
  · have h1 := List.all_eq_true.1 hK k hk
    simp only [Bool.and_eq_true, Bool.not_eq_true'] at h1
    refine ⟨by simpa using h1.1, ne_of_beq h1.2.1, fun ok hok' => ?_⟩
    have h2 := h1.2.2
    unfold edgeTo at h2
    rw [hok'] at h2
    obtain ⟨e, he, h⟩ := List.any_eq_true.1 h2
    have h3 := (Bool.and_eq_true _ _ ▸ h)
    exact ⟨e, by simpa using he, h3.1, Nat.eq_of_beq_eq_true h3.2⟩
  · have := List.all_eq_true.1 hap j hj
    rw [hoj] at this
    have hji' : Nat.beq j i = false := beq_false hji
    simp only [hji', Bool.false_or, Bool.or_eq_true] at this
    rcases this with h | h
    · exact .inl h
    · obtain ⟨e, he, h⟩ := List.any_eq_true.1 h
      have h2 := (Bool.and_eq_true _ _ ▸ h)
      exact .inr ⟨e, by simpa using he, h2.1, Nat.eq_of_beq_eq_true h2.2⟩
  · have hl : (todo.erase i).length = todo.length - 1 := List.length_erase_of_mem hmem
    have h := k _ w (hs.put hb v)
    rw [hd]
    rw [← hl, he]
    exact h

theorem qt_run {o : Op} {ty : TypeId} {v : Value} {N : List Own} (hq : Qt c ρ N Φ0 Ψ o ty v) {a : Act} {w w' : World} (hs : St c ρ B Φ Ψ a w) (hm : MI c N Φ0 Ψ w') (d : Option Tmp) (ps : String) (af : Array Edge) (g : Option (Nat × Bool)) : (execOp a.eval ⟨d, o, ty, ps, af, g⟩).run c.P w' = .ok (.value v) w' := by
  have := hq { a with defers := dfs c N } w' ⟨hs.nt, hs.reg, rfl, hm⟩ d ps af g
  rwa [eval_defers] at this

theorem ra_first (i : Nat) (N : List (Option Nat × Own)) (todo' : List Nat) {d : Nat} {o : Op} {ty : TypeId} {ps : String} {af : Array Edge} {v : Value} (ho : ops[i]? = some ⟨some d, o, ty, ps, af, none⟩ := by exact rfl) (hq : Qt c ρ (N.map (·.2)) Φ0 Ψ o ty v) (hok : okOps ops.toList = true := by kernel_rfl) (hnd : Nodup' todo = true := by exact rfl) (hin : todo.contains i = true := by exact rfl) (hr : rdy ops todo i = true := by kernel_rfl)
    (hap : (todo.all fun j => Nat.beq j i || match ops[j]? with | some oj => Oper.apart ops ⟨some d, o, ty, ps, af, none⟩ oj || oj.after.toList.any (fun e => Region.binds .any e && Nat.beq e.on i) | none => true) = true := by kernel_rfl) (hb : Nat.blt d c.nt = true := by exact rfl)
    (he : todo.erase i = todo' := by exact rfl) (hB : (pick L todo').Sublist B := by first | exact List.nil_sublist _ | exact List.Sublist.refl _ | (repeat (first | exact List.Sublist.refl _ | exact List.nil_sublist _ | apply List.Sublist.cons_cons | apply List.Sublist.cons))) (hΦ : ∀ φ ∈ Φ0, φ ∈ Φ := by simp) (hLi : (L.all fun p => match p.1 with | none => true | some k => !(Nat.beq k i)) = true := by exact rfl) (hN : N.Sublist L := by first | exact List.nil_sublist _ | exact List.Sublist.refl _ | (repeat (first | exact List.Sublist.refl _ | exact List.nil_sublist _ | apply List.Sublist.cons_cons | apply List.Sublist.cons)))
    (hK : ((N.filterMap (·.1)).all fun k => todo.contains k && (!(Nat.beq k i) && edgeTo ops k i)) = true := by exact rfl) (k : RA c (It c L Φ0 Ψ) ((d, v) :: ρ) B Φ Ψ ops todo' (NP Q)) : RA c (It c L Φ0 Ψ) ρ B Φ Ψ ops todo (NP Q) :=
  ra_core ho rfl hok hnd hin hr hap hb he hB hΦ hLi hN hK (fun a w hs => .inl ⟨by simp [Region.wanted], fun w' hm => qt_run hq hs hm _ _ _ _⟩) k
/-- A guarded operation that is wanted. -/
theorem ra_firstg (i : Nat) (N : List (Option Nat × Own)) (todo' : List Nat) {d j g : Nat} {og : Oper} {want : Bool} {o : Op} {ty : TypeId} {ps : String} {af : Array Edge} {v : Value} (ho : ops[i]? = some ⟨some d, o, ty, ps, af, some (j, want)⟩ := by exact rfl) (hog : ops[j]? = some og := by exact rfl) (hdg : og.dst = some g := by exact rfl) (hx : lk ρ g = some (.bool want) := by exact rfl) (hbg : Nat.blt g c.nt = true := by exact rfl)
    (hq : Qt c ρ (N.map (·.2)) Φ0 Ψ o ty v) (hok : okOps ops.toList = true := by kernel_rfl) (hnd : Nodup' todo = true := by exact rfl) (hin : todo.contains i = true := by exact rfl) (hr : rdy ops todo i = true := by kernel_rfl)
    (hap : (todo.all fun j' => Nat.beq j' i || match ops[j']? with | some oj => Oper.apart ops ⟨some d, o, ty, ps, af, some (j, want)⟩ oj || oj.after.toList.any (fun e => Region.binds .any e && Nat.beq e.on i) | none => true) = true := by kernel_rfl) (hb : Nat.blt d c.nt = true := by exact rfl)
    (he : todo.erase i = todo' := by exact rfl) (hB : (pick L todo').Sublist B := by first | exact List.nil_sublist _ | exact List.Sublist.refl _ | (repeat (first | exact List.Sublist.refl _ | exact List.nil_sublist _ | apply List.Sublist.cons_cons | apply List.Sublist.cons))) (hΦ : ∀ φ ∈ Φ0, φ ∈ Φ := by simp) (hLi : (L.all fun p => match p.1 with | none => true | some k => !(Nat.beq k i)) = true := by exact rfl) (hN : N.Sublist L := by first | exact List.nil_sublist _ | exact List.Sublist.refl _ | (repeat (first | exact List.Sublist.refl _ | exact List.nil_sublist _ | apply List.Sublist.cons_cons | apply List.Sublist.cons)))
    (hK : ((N.filterMap (·.1)).all fun k => todo.contains k && (!(Nat.beq k i) && edgeTo ops k i)) = true := by exact rfl) (k : RA c (It c L Φ0 Ψ) ((d, v) :: ρ) B Φ Ψ ops todo' (NP Q)) : RA c (It c L Φ0 Ψ) ρ B Φ Ψ ops todo (NP Q) :=
  ra_core ho rfl hok hnd hin hr hap hb he hB hΦ hLi hN hK (fun a w hs => .inl ⟨by
    have := yielded_of hs hog hdg hx hbg
    simp [Region.wanted, this], fun w' hm => qt_run hq hs hm _ _ _ _⟩) k
/-- A guarded operation that is not wanted. -/
theorem ra_skip (i : Nat) (todo' : List Nat) {d j g : Nat} {og : Oper} {want have' : Bool} {o : Op} {ty : TypeId} {ps : String} {af : Array Edge} (ho : ops[i]? = some ⟨some d, o, ty, ps, af, some (j, want)⟩ := by exact rfl) (hog : ops[j]? = some og := by exact rfl) (hdg : og.dst = some g := by exact rfl) (hx : lk ρ g = some (.bool have') := by exact rfl) (hbg : Nat.blt g c.nt = true := by exact rfl) (hne : (have' == want) = false := by exact rfl)
    (hok : okOps ops.toList = true := by kernel_rfl) (hnd : Nodup' todo = true := by exact rfl) (hin : todo.contains i = true := by exact rfl) (hr : rdy ops todo i = true := by kernel_rfl)
    (hap : (todo.all fun j' => Nat.beq j' i || match ops[j']? with | some oj => Oper.apart ops ⟨some d, o, ty, ps, af, some (j, want)⟩ oj || oj.after.toList.any (fun e => Region.binds .any e && Nat.beq e.on i) | none => true) = true := by kernel_rfl) (hb : Nat.blt d c.nt = true := by exact rfl)
    (he : todo.erase i = todo' := by exact rfl) (hB : (pick L todo').Sublist B := by first | exact List.nil_sublist _ | exact List.Sublist.refl _ | (repeat (first | exact List.Sublist.refl _ | exact List.nil_sublist _ | apply List.Sublist.cons_cons | apply List.Sublist.cons))) (hΦ : ∀ φ ∈ Φ0, φ ∈ Φ := by simp) (hLi : (L.all fun p => match p.1 with | none => true | some k => !(Nat.beq k i)) = true := by exact rfl) (k : RA c (It c L Φ0 Ψ) ((d, undef) :: ρ) B Φ Ψ ops todo' (NP Q)) : RA c (It c L Φ0 Ψ) ρ B Φ Ψ ops todo (NP Q) :=
  ra_core (N := []) ho rfl hok hnd hin hr hap hb he hB hΦ hLi (List.nil_sublist _) rfl (fun a w hs => .inr ⟨by
    have := yielded_of hs hog hdg hx hbg
    have hw : (some have' == some want) = false := by simpa using hne
    simp [Region.wanted, this, hw], rfl⟩) k

/-- Behind an operation that came next. -/
theorem sp_nx (hB : (pick L todo).Sublist B := by first | exact List.nil_sublist _ | exact List.Sublist.refl _ | (repeat (first | exact List.Sublist.refl _ | exact List.nil_sublist _ | apply List.Sublist.cons_cons | apply List.Sublist.cons))) (hΦ : ∀ φ ∈ Φ0, φ ∈ Φ := by simp) (k : RA c (It c L Φ0 Ψ) ρ B Φ Ψ ops todo Q) : SP c ρ B Φ Ψ .normal (NX c (It c L Φ0 Ψ) ops todo Q) := fun a w hs => ⟨mi_of hB hΦ hs, k a w hs⟩

theorem nx_mono {i : Nat} {n : Nat} (hn : n = (todo.erase i).length) {a : Act} {w : World} (h : wpListIn (Fr c.r) 0 c.P ops (NX c I ops (todo.erase i) Q) [ops[i]?.getD default] a w) (hi : ∃ o, ops[i]? = some o) :
    wpOpIn (Fr c.r) 0 c.P ops Q i (fun a' w' => I (todo.erase i) w' ∧ WAI c.P c.r ops Q I n (todo.erase i) a' w') a w := by
  obtain ⟨o, ho⟩ := hi
  rw [ho] at h
  subst hn
  unfold wpOpIn
  simp only [ho]
  simp only [Option.getD_some, wpListIn] at h
  split
  · rename_i hw
    simp only [hw, if_true] at h
    refine ⟨h.1, ?_⟩
    have h2 := h.2
    generalize (o.semAt (Fr c.r).round a.eval).run c.P w = r at *
    cases r with
    | ok x w' =>
      cases x <;> simp only [Oper.uponIn] at h2 ⊢ <;> first
        | exact h2
        | (refine ⟨h2.1, CallsIn.mono h2.2 fun e w'' he => ?_⟩; cases e <;> first | exact he | (obtain ⟨a, w, hl⟩ := he; exact ⟨a, w, hl⟩))
        | (refine ⟨h2.1, RoundIn.mono h2.2 fun e w'' he => ?_⟩; cases e <;> first | exact he | (obtain ⟨a, w, hl⟩ := he; exact ⟨a, w, hl⟩))
        | (refine ⟨h2.1, RowsIn.mono h2.2 fun e w'' he => he⟩)
    | halt x w' => cases x <;> simp only [Oper.uponIn] at h2 ⊢ <;> exact h2
  · rename_i hw
    simp only [hw, Bool.false_eq_true, if_false] at h
    exact h

/-- Every operation that may come next, each by itself. -/
theorem ra_split (is : List Nat) (hne : todo.isEmpty = false) (hr : (todo.filter fun i => rdy ops todo i) = is) (h : ∀ i ∈ is, SL c ρ B Φ Ψ ops [ops[i]?.getD default] (NX c I ops (todo.erase i) Q)) : RA c I ρ B Φ Ψ ops todo Q := fun a w hs => by
  have hlen : ∃ n, todo.length = n + 1 := by
    cases todo with
    | nil => cases hne
    | cons x l => exact ⟨l.length, rfl⟩
  obtain ⟨n, hn⟩ := hlen
  rw [hn]
  refine ⟨fun h0 => (by rw [h0] at hne; cases hne), fun i hi hrd => ?_⟩
  have hin : i ∈ is := by rw [← hr]; exact List.mem_filter.2 ⟨hi, hrd⟩
  have ho : ∃ o, ops[i]? = some o := by
    unfold rdy at hrd
    split at hrd
    · exact ⟨_, by assumption⟩
    · cases hrd
  exact nx_mono (by have := List.length_erase_of_mem hi; omega) (h i hin a w hs) ho
theorem ra1 {i : Nat} (todo' : List Nat) {d : Option Tmp} {o : Op} {ty : TypeId} {ps : String} {af : Array Edge} {g : Option (Nat × Bool)} (hr : (todo.filter fun i => rdy ops todo i) = [i] := by kernel_rfl) (ho : ops[i]? = some ⟨d, o, ty, ps, af, g⟩ := by exact rfl) (he : todo.erase i = todo' := by rfl) (h : SL c ρ B Φ Ψ ops [⟨d, o, ty, ps, af, g⟩] (NX c I ops todo' Q)) : RA c I ρ B Φ Ψ ops todo Q :=
  ra_split [i] (by cases todo with
    | nil => cases hr
    | cons x l => rfl) hr fun j hj => by
    cases hj with
    | head => rw [ho, he]; exact h
    | tail _ h => cases h
theorem ra2 {i j : Nat} (t1 t2 : List Nat) {d d1 : Option Tmp} {o o1 : Op} {ty ty1 : TypeId} {ps ps1 : String} {af af1 : Array Edge} {g g1 : Option (Nat × Bool)} (hr : (todo.filter fun i => rdy ops todo i) = [i, j]) (ho : ops[i]? = some ⟨d, o, ty, ps, af, g⟩) (he : todo.erase i = t1) (hp : ops[j]? = some ⟨d1, o1, ty1, ps1, af1, g1⟩) (hf : todo.erase j = t2)
    (h : SL c ρ B Φ Ψ ops [⟨d, o, ty, ps, af, g⟩] (NX c I ops t1 Q)) (k : SL c ρ B Φ Ψ ops [⟨d1, o1, ty1, ps1, af1, g1⟩] (NX c I ops t2 Q)) : RA c I ρ B Φ Ψ ops todo Q :=
  ra_split [i, j] (by cases todo with
    | nil => cases hr
    | cons x l => rfl) hr fun q hq => by
    cases hq with
    | head => rw [ho, he]; exact h
    | tail _ hq => cases hq with
      | head => rw [hp, hf]; exact k
      | tail _ h => cases h

/-- A region's state told anew: what is live. -/
theorem ra_set {ρ' : List (Nat × Value)} (h : ∀ p ∈ ρ', lk ρ p.1 = some p.2) (k : RA c I ρ' B Φ Ψ ops todo Q) : RA c I ρ B Φ Ψ ops todo Q := fun a w hs => k a w ⟨hs.nt, fun t v ht => hs.reg t v (lk_of_all h t v ht), hs.dfr, hs.mem⟩
end
end Go.Proofs.YtjahiohlekdhoaaDoor
