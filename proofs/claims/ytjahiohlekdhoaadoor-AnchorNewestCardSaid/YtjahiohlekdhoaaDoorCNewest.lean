/-
  suturelaw09.AnchorNewest: whatever the input the call returns true and leaves its arguments as they were. No condition of ours.
-/
import Derived.Test.YtjahiohlekdhoaaDoorCards
import Derived.Test.YtjahiohlekdhoaaDoorTie
import Derived.Test.YtjahiohlekdhoaaDoorReads9
import Derived.Test.YtjahiohlekdhoaaDoorLNewest
namespace Go.Proofs.YtjahiohlekdhoaaDoor.anchorNewest
open Go Go.ChangeShapes Go.WideShapes Go.RowKit

theorem own : ownKnob Tryd.prog.godebug = none := by kernel_rfl
theorem gTab : Tryd.prog.globalNamed "suture/ptr.widths" = some 0 := by kernel_rfl
theorem gTabType : (Tryd.prog.globals[0]?).map (·.type) = some 122 := by kernel_rfl
theorem cellsT : Tryd.prog.cellsOf 122 = 5 := by kernel_rfl
theorem cellsI : Tryd.prog.cellsOf 3 = 1 := by kernel_rfl
theorem undT : Tryd.prog.underlying 122 = some (.array 5 3) := by kernel_rfl
theorem undI : Tryd.prog.underlying 3 = some (.int .i64) := by kernel_rfl
theorem uS : Tryd.prog.underlying 47 = some (.slice 32) := by kernel_rfl
theorem uW : Tryd.prog.underlying 22 = some (.int .u32) := by kernel_rfl
theorem laidOut : laidOutB Tryd.prog = true := by kernel_rfl

theorem table {W : World} (h : laidMetH Tryd.prog Rows.anchorNewestRow.laid W) : Lib.TabIs Tryd.prog W "suture/ptr.widths" .i64 [1, 2, 2, 4, 8] :=
  Lib.tabIs_of_head (rest := []) gTab gTabType undT undI cellsI cellsT h
theorem gw {W : World} (h : laidMetH Tryd.prog Rows.anchorNewestRow.laid W) : GW.p V0 W := by
  intro i v hv
  have hi : i < 5 := by
    rcases Nat.lt_or_ge i 5 with h | h
    · exact h
    · rw [List.getElem?_eq_none (by simpa using h)] at hv; cases hv
  refine ⟨⟨0, 0, none⟩, rfl, not_V0 _, ?_⟩
  have hc := (table h).cell gTab i (by simpa using hi)
  rw [addr_add, Nat.zero_add]
  rw [hc]
  match i, hi with
  | 0, _ => exact hv
  | 1, _ => exact hv
  | 2, _ => exact hv
  | 3, _ => exact hv
  | 4, _ => exact hv

set_option maxRecDepth 100000 in
theorem contract (H : Type) (enc : TypeId × Value → H) (W : World) (base : Nat) (args : Array Value) (ds gs : List (DataW H)) (before : List MemPlace)
    (hval : ∀ (j : Nat) t v, Tryd.f5.params[j]? = some t → args[j]? = some v → Value.okWide Tryd.prog W .any base t v)
    (hW : DataW.Whole enc Tryd.prog Tryd.f5.params.toList Rows.anchorNewestSpec.vars false W args.toList ds gs before) (hL : laidMetH Tryd.prog Rows.anchorNewestRow.laid W) :
    Calls Tryd.prog 5 args W fun e W' => ∃ v, e = .returned v ∧ Rows.anchorNewestSpec.post enc Tryd.prog Tryd.f5 false true false false W args v W' := by
  have hW' := hW
  obtain ⟨p, q, hA, hV, _, _, _⟩ := hW
  rw [Tryd.params5] at hA hval
  obtain ⟨v0, v1, d0, d1, p0, p1, rfl, rfl, rfl, ⟨f0, h0⟩, ⟨f1, h1⟩⟩ := trodAll_two hA
  obtain ⟨s, hs, hok, hm, hR⟩ := rdAncs h0
  obtain ⟨tx, ht, _⟩ := rd32 h1
  obtain rfl := arg_slice uS (hval 0 47 v0 rfl rfl) hs
  obtain rfl := arg_int uW (hval 1 22 v1 rfl rfl) ht
  have hc := (c_lawNewest s.ba s.cap s.xs tx (Sl.len hok)).below (w := W) (by intro φ h; simp at h; subst h; exact hm) (gw hL)
  refine hc.mono fun e W' ⟨he, hb⟩ => ⟨_, he, ?_⟩
  exact post_of_below (bt := 4) laidOut (by kernel_rfl) rfl (by kernel_rfl) (by kernel_rfl) hW' rfl hb

/-- A WORLD FOR THE WITNESS: the settled one, the table (block 0) holding what its initialiser lays. -/
noncomputable def laidWorld (os : Os) : World :=
  { World.holding Tryd.prog os ⟨#[], #[], []⟩ with heap := (World.holding Tryd.prog os ⟨#[], #[], []⟩).heap.modify 0 fun
      | .cells _ t frozen => .cells #[.int .i64 1, .int .i64 2, .int .i64 2, .int .i64 4, .int .i64 8] t frozen
      | o => o }
def wArgs : Array Value := #[.slice none 0 0, .int .u32 0]
theorem laid_met (os : Os) : laidMet Tryd.prog Rows.anchorNewestRow.laid ((laidWorld os).forCall (fun _ _ => 0) ⟨#[], wArgs, []⟩).memory :=
  laidMet_of_run' 8 (by kernel_rfl) (by kernel_rfl)
theorem reads (os : Os) {H : Type} (enc : TypeId × Value → H) : ∃ places, DataW.whole enc Tryd.prog ((laidWorld os).forCall (fun _ _ => 0) ⟨#[], wArgs, []⟩).memory Tryd.f5.params.toList Rows.anchorNewestSpec.vars false wArgs.toList 8 = some ([.nil, .lit (.int .u32 0)], [], places) :=
  ⟨[], by kernel_rfl⟩

set_option maxRecDepth 100000 in
theorem lifted (os : Os) (started : os.Started) (H : Type) (enc : TypeId × Value → H) (F : Stop.Interp) :
    ReturnsInHanded {} Tryd.checked os 5 .any ((OpenSpec.ofChange Rows.anchorNewestSpec).preRow enc Tryd.prog Tryd.f5 Rows.anchorNewestRow.domain false Rows.anchorNewestRow.laid) (((OpenSpec.ofChange Rows.anchorNewestSpec).at F).post enc Tryd.prog Tryd.f5 false true false false) := by
  obtain ⟨places, hx⟩ := reads os enc
  refine returnsInHanded_of_row (C := Tryd.checked) (s := OpenSpec.ofChange Rows.anchorNewestSpec) own started (by kernel_rfl) Tryd.func5
    (witness_row_at (enc := enc) (C := Tryd.checked) false (laidWorld os) wArgs rfl (by kernel_rfl) (by kernel_rfl) (by kernel_rfl)
      (OpenSpec.preRow_of_cond 8 hx (by kernel_rfl) (fun k hk => by cases hk) (by kernel_rfl) (laid_met os))) ?_
  intro W base args ds gs before hval hW _ _ _ hL _ _
  exact contract H enc W base args ds gs before hval hW hL

theorem said : Rows.AnchorNewestSaid :=
  OpenClaim.holds_of_cond 5 Tryd.f5 rfl rfl rfl rfl rfl rfl rfl ⟨rfl, rfl, rfl, rfl, rfl⟩ rfl rfl rfl rfl rfl (by kernel_rfl) Tryd.func5 (by kernel_rfl)
    (of_decide_eq_true (by kernel_rfl)) (by unfold Func.isWrapper; first | (rw [if_pos (by decide +kernel)]; kernel_rfl) | (rw [if_neg (by decide +kernel)]; exact ⟨rfl, rfl⟩))
    (fun os started H enc _ F => by rw [OpenClaim.pre_eq_preRow]; exact lifted os started H enc F)

theorem plain (f : FuncId) (fn : Func) (hf : Tryd.pinned.checked.prog.funcNamed "suture/suturelaw09.AnchorNewest" = some f) (hfn : Tryd.pinned.checked.prog.funcs[f]? = some fn) :
    false = Tryd.pinned.checked.prog.looks [] ∧ ∀ (j : Nat) t, fn.params[j]? = some t → Tryd.pinned.checked.prog.wantsStandIn t = false := by
  obtain rfl : f = 5 := Option.some.inj ((show Tryd.prog.funcNamed "suture/suturelaw09.AnchorNewest" = some 5 by kernel_rfl).symm.trans hf) |>.symm
  obtain rfl : fn = Tryd.f5 := (Option.some.inj (Tryd.func5.symm.trans hfn)).symm
  refine ⟨by kernel_rfl, fun j t ht => ?_⟩
  rw [Tryd.params5] at ht
  have hm : t ∈ [47, 22] := by simpa using Array.mem_of_getElem? ht
  have hall : ([47, 22].all fun t => Tryd.prog.wantsStandIn t == false) = true := by kernel_rfl
  exact eq_of_beq (List.all_eq_true.1 hall t hm)

/-- THE CARD. -/
theorem card : Rows.AnchorNewestCardSaid :=
  Claim7.holds_tied_plain_at .later [] _ _ _ _ said (fun _ h => by cases h) (by kernel_rfl) (fun _ h => by cases h) anchorNewest_row_tie rfl ⟨rfl, rfl⟩ (by kernel_rfl) rfl plain (by kernel_rfl)
#print axioms card
end Go.Proofs.YtjahiohlekdhoaaDoor.anchorNewest
