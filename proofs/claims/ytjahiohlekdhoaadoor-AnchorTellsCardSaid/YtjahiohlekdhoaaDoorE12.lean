/-
  The engine, part 12: slices of bytes: made, appended to, cut, compared with nil; calls that tell one.
-/
import Derived.Test.YtjahiohlekdhoaaDoorE11
namespace Go.Proofs.YtjahiohlekdhoaaDoor
open Go

/-- What is told is a slice of these bytes. -/
def retB (xs : List UInt8) : PostC := retF fun v Φ' => ∃ s : BS, v = s.v ∧ s.ok ∧ s.xs = xs ∧ Φ' = [s.res]
/-- What is told is a row of one's own of these bytes. -/
def retR (e : TypeId) (xs : List UInt8) : PostC := fun v B' Φ' => v.cells = #[v] ∧ v.oneCell' = true ∧ B' = [.row v xs.length (bv xs) e 1] ∧ Φ' = []

theorem bsz (xs : List UInt8) : (xs.map v8).length = xs.length := by simp

section
variable {c : Ctx} {ρ : List (Nat × Value)} {B B' B0 Br Bp : List Own} {Φ Φ' Φp : List Res} {Ψ : List JR} {ops : Array Oper} {rest : List Oper} {Q : Post} {d ty t : Nat} {ps : String} {af : Array Edge} {x y z : Operand} {v u : Value} {xt yt : TypeId} {m n : Int} {kk : IntKind} {e sz by' : Nat} {ba : Option Addr} {ex : Exit}

theorem r_callB {f : FuncId} {args cap : List Value} {l : List Operand} {vs : List Value} {at' : Array TypeId} {fo : Operand} {xs : List UInt8} (hc : Ctr c.P c.G f args [] Φp (retB xs)) (hf : ev ρ fo = some (.func (.func f) #[] cap.toArray) := by exact rfl) (hargs : evs ρ l = some vs := by exact rfl) (ha : args = vs ++ cap := by exact rfl)
    (hΦ : ∀ φ ∈ Φp, φ ∈ Φ := by simp) (hb : Nat.blt d c.nt = true := by exact rfl) (k : ∀ s : BS, s.ok → s.xs = xs → SL c ((d, s.v) :: ρ) B (s.res :: Φ) Ψ ops rest Q) : SL c ρ B Φ Ψ ops (⟨some d, .call ⟨.value fo, l.toArray, at'⟩, ty, ps, af, none⟩ :: rest) Q :=
  r_callF hc hf hargs ha hΦ hb (by rintro _ _ ⟨s, rfl, h1, h2, rfl⟩; exact k s h1 h2)
theorem r_callR {f : FuncId} {args cap : List Value} {l : List Operand} {vs : List Value} {at' : Array TypeId} {fo : Operand} {xs : List UInt8} (hc : Ctr c.P c.G f args Bp Φp (retR e xs)) (hf : ev ρ fo = some (.func (.func f) #[] cap.toArray) := by exact rfl) (hargs : evs ρ l = some vs := by exact rfl) (ha : args = vs ++ cap := by exact rfl)
    (hΦ : ∀ φ ∈ Φp, φ ∈ Φ := by simp) (hb : Nat.blt d c.nt = true := by exact rfl) (k : ∀ v, v.cells = #[v] → v.oneCell' = true → SL c ((d, v) :: ρ) (.row v xs.length (bv xs) e 1 :: Br) Φ Ψ ops rest Q) : SL c ρ (Bp ++ Br) Φ Ψ ops (⟨some d, .call ⟨.value fo, l.toArray, at'⟩, ty, ps, af, none⟩ :: rest) Q :=
  r_call hc hf hargs ha hΦ hb (by rintro v _ _ ⟨h1, h2, rfl, rfl⟩; exact k v h1 h2)

/-- 's == nil' of a slice. -/
theorem r_nil_eq {cap n : Nat} (ht : tSl c.P xt = some (e, sz, by') := by exact tl rfl) (hx : ev ρ x = some (.slice ba n cap) := by exact rfl) (hy : ev ρ y = some (.slice none 0 0) := by exact rfl) (hb : Nat.blt d c.nt = true := by exact rfl) (k : SL c ((d, .bool ba.isNone) :: ρ) B Φ Ψ ops rest Q) :
    SL c ρ B Φ Ψ ops (⟨some d, .binOp .eql xt x y yt, ty, ps, af, none⟩ :: rest) Q := r_bin hx hy hb (fun w => by
      obtain ⟨hu, _⟩ := tSl_inv ht
      have : (Op.equal xt (.slice ba n cap) (.slice none 0 0)).run c.P w = .ok ba.isNone w := by
        show (Op.equalIn (9999 + 1) xt _ _).run c.P w = _
        cases ba <;> (unfold Op.equalIn; simp [run_underlying hu])
      simp [eqGuard, binOp, this]) k

theorem r_eqlb' {p q : Bool} (hx : ev ρ x = some (.bool p) := by exact rfl) (hy : ev ρ y = some (.bool q) := by exact rfl) (hb : Nat.blt d c.nt = true := by exact rfl) (ht : c.P.underlying xt = some .bool := by exact tb4) (k : SL c ((d, .bool (p == q)) :: ρ) B Φ Ψ ops rest Q) :
    SL c ρ B Φ Ψ ops (⟨some d, .binOp .eql xt x y yt, ty, ps, af, none⟩ :: rest) Q := r_eqlb ht hx hy hb k
theorem r_neqb' {p q : Bool} (hx : ev ρ x = some (.bool p) := by exact rfl) (hy : ev ρ y = some (.bool q) := by exact rfl) (hb : Nat.blt d c.nt = true := by exact rfl) (ht : c.P.underlying xt = some .bool := by exact tb4) (k : SL c ((d, .bool (!(p == q))) :: ρ) B Φ Ψ ops rest Q) :
    SL c ρ B Φ Ψ ops (⟨some d, .binOp .neq xt x y yt, ty, ps, af, none⟩ :: rest) Q := r_neqb ht hx hy hb k

theorem r_store1 {b off s : Nat} {cs cs' : List Value} {bt : TypeId} (ht : tSz c.P t = some (false, s) := by exact tz rfl) (hs : s = 1 := by exact rfl) (hx : ev ρ x = some (.pointer (some ⟨b, off, none⟩)) := by exact rfl) (hy : ev ρ y = some v := by exact rfl)
    (h1 : v.oneCell' = true := by first | exact rfl | assumption) (hB : Upd B (.box b cs bt) (.box b cs' bt) B' := by first | exact .hd | exact .tl (.hd) | exact .tl (.tl (.hd)) | exact .tl (.tl (.tl (.hd))) | exact .tl (.tl (.tl (.tl (.hd)))) | exact .tl (.tl (.tl (.tl (.tl (.hd))))) | exact .tl (.tl (.tl (.tl (.tl (.tl (.hd)))))) | exact .tl (.tl (.tl (.tl (.tl (.tl (.tl (.hd))))))) | exact .tl (.tl (.tl (.tl (.tl (.tl (.tl (.tl (.hd)))))))) | exact .tl (.tl (.tl (.tl (.tl (.tl (.tl (.tl (.tl (.hd))))))))) | exact .tl (.tl (.tl (.tl (.tl (.tl (.tl (.tl (.tl (.tl (.hd)))))))))) | exact .tl (.tl (.tl (.tl (.tl (.tl (.tl (.tl (.tl (.tl (.tl (.hd)))))))))))) (hl : Nat.blt off cs.length = true := by exact rfl) (hcs : cs.set off v = cs' := by exact rfl)
    (k : SL c ρ B' Φ Ψ ops rest Q) : SL c ρ B Φ Ψ ops (⟨none, .store t x y, ty, ps, af, none⟩ :: rest) Q := r_store_one ht hs hx hy h1 (by simpa using hl) hcs hB k

theorem r_ext {l : List Value} {i : Nat} (hx : ev ρ x = some (.tuple l.toArray) := by exact rfl) (hi : l[i]? = some v := by exact rfl) (hb : Nat.blt d c.nt = true := by exact rfl) (k : SL c ((d, v) :: ρ) B Φ Ψ ops rest Q) :
    SL c ρ B Φ Ψ ops (⟨some d, .extract x i, ty, ps, af, none⟩ :: rest) Q := r_extract hx (by simpa using hi) hb k

/-- A slice that is nowhere is empty. -/
theorem f_nowhere {cs : List Value} (hm : Res.mem none cs ∈ Φ) (k : cs = [] → SL c ρ B Φ Ψ ops rest Q) : SL c ρ B Φ Ψ ops rest Q := fun a w hs => by
  obtain ⟨V, U, M, m⟩ := hs.mem
  refine k ?_ a w hs
  cases cs with
  | nil => rfl
  | cons v r => obtain ⟨ad, h, _⟩ := m.phi _ hm 0 v rfl; cases h
theorem w_nowhere {cs : List Value} {code : Code} (hm : Res.mem none cs ∈ Φ) (k : cs = [] → SW c ρ B Φ Ψ code Q) : SW c ρ B Φ Ψ code Q :=
  fun a w hs => f_nowhere (ops := #[]) (rest := []) (Q := fun _ a w => code.wpIn (Fr c.r) 0 c.P Q a w) hm (fun h a w hs => k h a w hs) a w hs

theorem sp_nowhere {cs : List Value} (hm : Res.mem none cs ∈ Φ) (k : cs = [] → SP c ρ B Φ Ψ ex Q) : SP c ρ B Φ Ψ ex Q :=
  fun a w hs => f_nowhere (ops := #[]) (rest := []) (Q := fun _ a w => Q ex a w) hm (fun h a w hs => k h a w hs) a w hs
theorem sp_nil (e sz : Nat) (k : SP c ρ (.row (.slice none 0 0) 0 [] e sz :: B) Φ Ψ ex Q) : SP c ρ B Φ Ψ ex Q := sp_of_sl (fun h => o_nil e sz h) k
theorem bv_nil {xs : List UInt8} (h : bv xs = []) : xs = [] := List.map_eq_nil_iff.1 h

/-- 'append(s, x...)' of bytes. -/
theorem r_appendB {xs : List UInt8} {s : BS} {at1 : TypeId} (ht : tSl c.P at1 = some (e, 1, 1)) (hz : tZ c.P e = some (.int .u8 0)) (hx : ev ρ x = some v) (hy : ev ρ y = some s.v) (hm : s.res ∈ Φ) (h : xs.length + s.xs.length ≤ 140737488355328) (hb : Nat.blt d c.nt = true)
    (k : ∀ v', v'.cells = #[v'] → v'.oneCell' = true → SL c ((d, v') :: ρ) (.row v' (xs ++ s.xs).length (bv (xs ++ s.xs)) e 1 :: B) Φ Ψ ops rest Q) :
    SL c ρ (.row v xs.length (bv xs) e 1 :: B) Φ Ψ ops (⟨some d, .call ⟨.builtin .append, #[x, y], #[at1, at1]⟩, ty, ps, af, none⟩ :: rest) Q :=
  r_append (n := xs.length) (mm := s.xs.length) (news := bv s.xs) ht hz rfl rfl hx hy hm (by simp [bv]) (bv_one _) (by omega) (by omega) hb (by
    intro v' h1 h2
    have := k v' h1 h2
    rw [bv_append, List.length_append] at this
    exact this)

/-- A row of bytes changes no more. -/
theorem o_rowB {xs : List UInt8} (k : ∀ s : BS, s.ok → s.xs = xs → v = s.v → SL c ρ B (s.res :: Φ) Ψ ops rest Q) : SL c ρ (.row v xs.length (bv xs) e 1 :: B) Φ Ψ ops rest Q :=
  o_row (by
    rintro ba cap rfl h1 h2 h3
    exact k ⟨ba, cap, xs⟩ ⟨h1, h2⟩ rfl rfl)
theorem wo_rowB {xs : List UInt8} {code : Code} (k : ∀ s : BS, s.ok → s.xs = xs → v = s.v → SW c ρ B (s.res :: Φ) Ψ code Q) : SW c ρ (.row v xs.length (bv xs) e 1 :: B) Φ Ψ code Q :=
  wo_row (by
    rintro ba cap rfl h1 h2 h3
    exact k ⟨ba, cap, xs⟩ ⟨h1, h2⟩ rfl rfl)
theorem sp_rowB {xs : List UInt8} (k : ∀ s : BS, s.ok → s.xs = xs → v = s.v → SP c ρ B (s.res :: Φ) Ψ ex Q) : SP c ρ (.row v xs.length (bv xs) e 1 :: B) Φ Ψ ex Q :=
  sp_row (by
    rintro ba cap rfl h1 h2 h3
    exact k ⟨ba, cap, xs⟩ ⟨h1, h2⟩ rfl rfl)

/-- '[]byte{..}': a row of one's own. -/
theorem r_litB {len : Nat} {xs : List Operand} {bs : List UInt8} (ht : tSl c.P t = some (e, 1, by')) (hz : tZ c.P e = some (.int .u8 0)) (hx : evs ρ xs = some (bv bs)) (hlen : bs.length = len) (hsm : Nat.ble len 16777216 = true)
    {parts : List (Nat × Operand)} (hp : parts = (xs.zipIdx 0).map fun p => (p.2, p.1)) (hb : Nat.blt d c.nt = true)
    (k : ∀ v, v.cells = #[v] → v.oneCell' = true → SL c ((d, v) :: ρ) (.row v bs.length (bv bs) e 1 :: B) Φ Ψ ops rest Q) :
    SL c ρ B Φ Ψ ops (⟨some d, .buildSlice t len parts.toArray, ty, ps, af, none⟩ :: rest) Q := by
  have hl : len ≤ 16777216 := by simpa using hsm
  refine r_lit (cells := bv bs) ht hz hx (by rw [bv_len]; exact hlen) (fun v hv => ?_) (by omega) (by omega) hp ?_ hb (fun b => ?_)
  · obtain ⟨y, _, rfl⟩ := List.mem_map.1 hv; rfl
  · clear hx hlen k
    induction bs with
    | nil => rfl
    | cons y l ih => simp only [bv, List.map_cons, List.flatMap_cons] at ih ⊢; rw [ih]; rfl
  · have := k (.slice (some ⟨b, 0, none⟩) len len) rfl rfl
    rw [hlen] at this
    exact this

/-- 's[lo:hi]' of bytes. -/
theorem r_cutB {s : BS} {lo hi : Option Operand} {l h : Nat} (ht : tSl c.P t = some (e, 1, by')) (hx : ev ρ x = some s.v) (hm : s.res ∈ Φ) (hok : s.ok)
    (hlo : match lo with | none => l = 0 | some o => ∃ k, ev ρ o = some (.int k l)) (hhi : match hi with | none => h = s.xs.length | some o => ∃ k, ev ρ o = some (.int k h)) (hlh : l ≤ h) (hhn : h ≤ s.xs.length)
    (hb : Nat.blt d c.nt = true) (k : ∀ s' : BS, s'.ok → s'.xs = (s.xs.drop l).take (h - l) → SL c ((d, s'.v) :: ρ) B (s'.res :: Φ) Ψ ops rest Q) :
    SL c ρ B Φ Ψ ops (⟨some d, .slice t x lo hi none, ty, ps, af, none⟩ :: rest) Q :=
  r_cut (cs := bv s.xs) ht hx hm hlo hhi hlh hhn hok.1 hb (by
    have hl : ((s.xs.drop l).take (h - l)).length = h - l := by simp; omega
    have := k ⟨cutBase s.ba l s.cap 1, s.cap - l, (s.xs.drop l).take (h - l)⟩ ⟨by rw [hl]; have := hok.1; show h - l ≤ s.cap - l; omega, by have := hok.2; show s.cap - l ≤ maxLen; omega⟩ rfl
    unfold BS.v BS.res at this
    simp only [hl] at this
    rw [bv_cut, Nat.mul_one, Nat.mul_one]
    exact this)
end
end Go.Proofs.YtjahiohlekdhoaaDoor
