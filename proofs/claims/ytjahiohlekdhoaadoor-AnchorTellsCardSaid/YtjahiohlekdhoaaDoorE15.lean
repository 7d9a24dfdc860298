/-
  The engine, part 15: calls to which own blocks are lent: the function reads them, and tells a value alone.
-/
import Derived.Test.YtjahiohlekdhoaaDoorE14
namespace Go.Proofs.YtjahiohlekdhoaaDoor
open Go
section
variable {c : Ctx} {ρ : List (Nat × Value)} {B : List Own} {Φ Φp : List Res} {Ψ : List JR} {ops : Array Oper} {rest : List Oper} {Q : Post} {d ty t : Nat} {ps : String} {af : Array Edge} {v : Value}

/-- What blocks entail, where they are not avoided. -/
def Lent (Bl : List Own) (Φ : List Res) (φ : Res) : Prop := ∀ V w, (∀ o ∈ Bl, o.holds w) → (∀ b, blks Bl b → ¬ V b) → (∀ ψ ∈ Φ, ψ.p V w) → φ.p V w

theorem r_call1L {f : FuncId} {args cap : List Value} {l : List Operand} {vs : List Value} {at' : Array TypeId} {fo : Operand} (hc : Ctr c.P c.G f args [] Φp (ret1 v)) (Bl : List Own) (hf : ev ρ fo = some (.func (.func f) #[] cap.toArray)) (hargs : evs ρ l = some vs) (ha : args = vs ++ cap)
    (hBl : Bl.Sublist B) (hΦ : ∀ φ ∈ Φp, Lent Bl Φ φ) (hb : Nat.blt d c.nt = true) (k : SL c ((d, v) :: ρ) B Φ Ψ ops rest Q) : SL c ρ B Φ Ψ ops (⟨some d, .call ⟨.value fo, l.toArray, at'⟩, ty, ps, af, none⟩ :: rest) Q :=
  sl_plain rfl fun a w hs K hK => by
    obtain ⟨V, U, M, m⟩ := hs.mem
    refine ⟨fun _ _ => trivial, ?_⟩
    have hsem : ∀ o : Oper, (∀ c, o.op ≠ .defer c) → (o.semAt (Fr c.r).round a.eval) = execOp a.eval o := fun o ho => Oper.semAt_eq _ _ _ ho
    rw [hsem _ (fun _ => by simp)]
    have hmap : l.toArray.map a.eval = vs.toArray := by rw [List.map_toArray, hs.evs hargs]
    have hrun : (execOp a.eval ⟨some d, .call ⟨.value fo, l.toArray, at'⟩, ty, ps, af, none⟩).run c.P w = .ok (.enter f args.toArray) w := by
      simp only [execOp, resolve, hs.ev hf, Deferred.ofValue, invoke, Sem.run_bind, Sem.run_pure, Result.andThen_ok, hmap]
      rw [hc.enters]
      congr 2
      rw [ha]; simp
    rw [hrun]
    have hno : ∀ b, ¬ blks ([] : List Own) b := fun b ⟨o, ho, _⟩ => by cases ho
    have hless : ∀ b, Or' (fun b => V b ∧ ¬ blks Bl b) (blks []) b → V b := fun b h => h.elim (fun h => h.1) fun h => (hno b h).elim
    refine ⟨fun h => (by cases h), callsIn_fr (Calls.mono (hc.calls w (fun b => V b ∧ ¬ blks Bl b) (fun b h => m.vlt b h.1) ⟨fun o ho => (by cases ho), .nil⟩ (fun b h => (hno b h).elim) (fun φ hφ => hΦ φ hφ _ w (fun o ho => m.sep.holds o (hBl.subset ho)) (fun b hb h => ?_) fun ψ hψ => ψ.less (m.phi ψ hψ) hless) (c.G.less m.g hless)) ?_)⟩
    · exact h.elim (fun h => h.2 hb) (hno b)
    · rintro e w' ⟨v', B', Φ', rfl, ⟨rfl, rfl, rfl⟩, hm, hsep, hbl, hphi, ⟨hsz, hio⟩, hkept⟩
      have hk : ∀ b, b < w.heap.size → w'.heap[b]? = w.heap[b]? := fun b hl => hkept b hl (hno b)
      have kk : ∀ V : Av, Kept V V w w' := fun V => ⟨hsz, fun b hl _ => hk b hl, fun b _ h => h⟩
      refine hK _ _ (k _ _ ((hs.put hb v').mem' rfl (V := V) (U := U) (M := M) ⟨m.vx, m.vm, m.vb, fun b h => Nat.lt_of_lt_of_le (m.vlt b h) hsz, m.ub, fun b h => Nat.lt_of_lt_of_le (m.ult b h) hsz, m.sep.keep fun b hb => hk b (m.sep.lt hb), m.own, fun φ hφ => φ.st (kk V) (m.phi φ hφ), fun ψ hψ => ψ.st (kk U) (m.psi ψ hψ), c.G.st (kk V) m.g, Nat.le_trans m.sz hsz,
        fun b h1 h2 h3 => (hk b (by have := m.sz; omega)).trans (m.frame b h1 h2 h3), m.xlt, m.mo, m.io.trans hio⟩))
/-- A fact of the state is lent. -/
theorem lent_of {Bl : List Own} {φ : Res} (h : φ ∈ Φ) : Lent Bl Φ φ := fun _ _ _ _ hw => hw φ h
/-- A cut of a box. -/
theorem lent_box {Bl : List Own} {b l n : Nat} {cs : List Value} {bt : TypeId} (h : Own.box b cs bt ∈ Bl) : Lent Bl Φ (Res.mem (some ⟨b, l, none⟩) (part' cs l n)) := fun V w hh hv _ i v hi => by
  obtain ⟨h1, h2⟩ := part'_get hi
  exact ⟨_, rfl, hv b ⟨_, h, rfl⟩, by rw [addr_add, box_cell (hh _ h)]; exact h2⟩
end
end Go.Proofs.YtjahiohlekdhoaaDoor
