/-
  suturelaw12.RingSplit: whatever the input the call returns true and leaves its arguments as they were. No condition of ours. The card ties the listed package-level variable (ptr.widths) to the program's text; the tie is the given one, over the pruned copy of the project.
-/
import Derived.Test.YtjahiohlekdhoaaDoorCards
import Derived.Test.YtjahiohlekdhoaaDoorTie
import Derived.Test.YtjahiohlekdhoaaDoorRingSplitM5
import Derived.Test.YtjahiohlekdhoaaDoorRingSplitM10
namespace Go.Proofs.YtjahiohlekdhoaaDoor.ringSplit
open Go Go.ChangeShapes Go.WideShapes Go.RowKit

theorem own : ownKnob Tryd.prog.godebug = none := by kernel_rfl
theorem gTab : Tryd.prog.globalNamed "suture/ptr.widths" = some 0 := by kernel_rfl
theorem gTabType : (Tryd.prog.globals[0]?).map (·.type) = some 122 := by kernel_rfl
theorem cellsT : Tryd.prog.cellsOf 122 = 5 := by kernel_rfl
theorem cellsI : Tryd.prog.cellsOf 3 = 1 := by kernel_rfl
theorem undT : Tryd.prog.underlying 122 = some (.array 5 3) := by kernel_rfl
theorem undI : Tryd.prog.underlying 3 = some (.int .i64) := by kernel_rfl
theorem laidOut : laidOutB Tryd.prog = true := by kernel_rfl
theorem u0 : Tryd.prog.underlying 3 = some (.int .i64) := by kernel_rfl
theorem u1 : Tryd.prog.underlying 3 = some (.int .i64) := by kernel_rfl
theorem u2 : Tryd.prog.underlying 3 = some (.int .i64) := by kernel_rfl

theorem table {W : World} (h : laidMetH Tryd.prog Rows.ringSplitRow.laid W) : Lib.TabIs Tryd.prog W "suture/ptr.widths" .i64 [1, 2, 2, 4, 8] :=
  Lib.tabIs_of_head (rest := []) gTab gTabType undT undI cellsI cellsT h
theorem gw {W : World} (h : laidMetH Tryd.prog Rows.ringSplitRow.laid W) : GW.p V0 W := by
  intro i v hv
  have hi : i < 5 := by
    rcases Nat.lt_or_ge i 5 with h | h
    · exact h
    · rw [List.getElem?_eq_none (by simpa using h)] at hv; cases hv
  refine ⟨⟨0, 0, none⟩, rfl, not_V0 _, ?_⟩
  have hc := (table h).cell gTab i (by simpa using hi)
  rw [addr_add, Nat.zero_add]
  rw [hc]
  match i, hi with
  | 0, _ => exact hv
  | 1, _ => exact hv
  | 2, _ => exact hv
  | 3, _ => exact hv
  | 4, _ => exact hv

set_option maxRecDepth 100000 in
theorem contract (H : Type) (enc : TypeId × Value → H) (W : World) (base : Nat) (args : Array Value) (ds gs : List (DataW H)) (before : List MemPlace)
    (hval : ∀ (j : Nat) t v, Tryd.f8.params[j]? = some t → args[j]? = some v → Value.okWide Tryd.prog W .any base t v)
    (hW : DataW.Whole enc Tryd.prog Tryd.f8.params.toList Rows.ringSplitSpec.vars false W args.toList ds gs before) (hL : laidMetH Tryd.prog Rows.ringSplitRow.laid W) :
    Calls Tryd.prog 8 args W fun e W' => ∃ v, e = .returned v ∧ Rows.ringSplitSpec.post enc Tryd.prog Tryd.f8 false true false false W args v W' := by
  have hW' := hW
  obtain ⟨p, q, hA, hV, _, _, _⟩ := hW
  rw [Tryd.params8] at hA hval
  obtain ⟨v0, vs0, d0, ds0, p0, q0, hargs, rfl, rfl, ⟨f0, h0⟩, r0⟩ := trodAll_cons hA
  obtain ⟨v1, vs1, d1, ds1, p1, q1, rfl, rfl, rfl, ⟨f1, h1⟩, r1⟩ := trodAll_cons r0
  obtain ⟨v2, vs2, d2, ds2, p2, q2, rfl, rfl, rfl, ⟨f2, h2⟩, r2⟩ := trodAll_cons r1
  obtain ⟨rfl, rfl, rfl⟩ := trodAll_nil r2
  obtain rfl : args = #[v0, v1, v2] := by cases args; simp_all
  obtain ⟨x0, hx0, hR0⟩ := rdi h0
  obtain rfl := arg_int u0 (hval 0 3 v0 rfl rfl) hx0
  obtain ⟨x1, hx1, hR1⟩ := rdi h1
  obtain rfl := arg_int u1 (hval 1 3 v1 rfl rfl) hx1
  obtain ⟨x2, hx2, hR2⟩ := rdi h2
  obtain rfl := arg_int u2 (hval 2 3 v2 rfl rfl) hx2
  have hc := (c_lawSplit x0 x1 x2).below (w := W) (by intro φ h; simp at h) (gw hL)
  refine hc.mono fun e W' ⟨he, hb⟩ => ⟨_, he, ?_⟩
  exact post_of_below (bt := 4) laidOut (by kernel_rfl) rfl (by kernel_rfl) (by kernel_rfl) hW' rfl hb

/-- A world for the witness: the settled one, the table (block 0) holding what its initialiser lays. -/
noncomputable def laidWorld (os : Os) : World :=
  { World.holding Tryd.prog os ⟨#[], #[], []⟩ with heap := (World.holding Tryd.prog os ⟨#[], #[], []⟩).heap.modify 0 fun
      | .cells _ t frozen => .cells #[.int .i64 1, .int .i64 2, .int .i64 2, .int .i64 4, .int .i64 8] t frozen
      | o => o }
def wArgs : Array Value := #[vi 0, vi 0, vi 0]
theorem laid_met (os : Os) : laidMet Tryd.prog Rows.ringSplitRow.laid ((laidWorld os).forCall (fun _ _ => 0) ⟨#[], wArgs, []⟩).memory :=
  laidMet_of_run' 8 (by kernel_rfl) (by kernel_rfl)
theorem reads (os : Os) {H : Type} (enc : TypeId × Value → H) : ∃ places, DataW.whole enc Tryd.prog ((laidWorld os).forCall (fun _ _ => 0) ⟨#[], wArgs, []⟩).memory Tryd.f8.params.toList Rows.ringSplitSpec.vars false wArgs.toList 8 = some ([.lit (.int .i64 0), .lit (.int .i64 0), .lit (.int .i64 0)], [], places) :=
  ⟨[], by kernel_rfl⟩

set_option maxRecDepth 100000 in
theorem lifted (os : Os) (started : os.Started) (H : Type) (enc : TypeId × Value → H) (F : Stop.Interp) :
    ReturnsInHanded {} Tryd.checked os 8 .any ((OpenSpec.ofChange Rows.ringSplitSpec).preRow enc Tryd.prog Tryd.f8 Rows.ringSplitRow.domain false Rows.ringSplitRow.laid) (((OpenSpec.ofChange Rows.ringSplitSpec).at F).post enc Tryd.prog Tryd.f8 false true false false) := by
  obtain ⟨places, hx⟩ := reads os enc
  refine returnsInHanded_of_row (C := Tryd.checked) (s := OpenSpec.ofChange Rows.ringSplitSpec) own started (by kernel_rfl) Tryd.func8
    (witness_row_at (enc := enc) (C := Tryd.checked) false (laidWorld os) wArgs rfl (by kernel_rfl) (by kernel_rfl) (by kernel_rfl)
      (OpenSpec.preRow_of_cond 8 hx (by kernel_rfl) (fun k hk => by cases hk) (by kernel_rfl) (laid_met os))) ?_
  intro W base args ds gs before hval hW _ _ _ hL _ _
  exact contract H enc W base args ds gs before hval hW hL

theorem said : Rows.RingSplitSaid :=
  OpenClaim.holds_of_cond 8 Tryd.f8 rfl rfl rfl rfl rfl rfl rfl ⟨rfl, rfl, rfl, rfl, rfl⟩ rfl rfl rfl rfl rfl (by kernel_rfl) Tryd.func8 (by kernel_rfl)
    (of_decide_eq_true (by kernel_rfl)) (by unfold Func.isWrapper; first | (rw [if_pos (by decide +kernel)]; kernel_rfl) | (rw [if_neg (by decide +kernel)]; exact ⟨rfl, rfl⟩))
    (fun os started H enc _ F => by rw [OpenClaim.pre_eq_preRow]; exact lifted os started H enc F)

theorem plain (f : FuncId) (fn : Func) (hf : Tryd.pinned.checked.prog.funcNamed "suture/suturelaw12.RingSplit" = some f) (hfn : Tryd.pinned.checked.prog.funcs[f]? = some fn) :
    false = Tryd.pinned.checked.prog.looks [] ∧ ∀ (j : Nat) t, fn.params[j]? = some t → Tryd.pinned.checked.prog.wantsStandIn t = false := by
  obtain rfl : f = 8 := Option.some.inj ((show Tryd.prog.funcNamed "suture/suturelaw12.RingSplit" = some 8 by kernel_rfl).symm.trans hf) |>.symm
  obtain rfl : fn = Tryd.f8 := (Option.some.inj (Tryd.func8.symm.trans hfn)).symm
  refine ⟨by kernel_rfl, fun j t ht => ?_⟩
  rw [Tryd.params8] at ht
  have hm : t ∈ [3, 3, 3] := by simpa using Array.mem_of_getElem? ht
  have hall : ([3, 3, 3].all fun t => Tryd.prog.wantsStandIn t == false) = true := by kernel_rfl
  exact eq_of_beq (List.all_eq_true.1 hall t hm)

/-- THE CARD. -/
theorem card : Rows.RingSplitCardSaid :=
  Claim7.holds_tied_plain_at .later [] _ _ _ _ said (fun _ h => by cases h) (by kernel_rfl) (fun _ h => by cases h) ringSplit_row_tie rfl ⟨rfl, rfl⟩ (by kernel_rfl) rfl plain (by kernel_rfl)
#print axioms card
end Go.Proofs.YtjahiohlekdhoaaDoor.ringSplit
