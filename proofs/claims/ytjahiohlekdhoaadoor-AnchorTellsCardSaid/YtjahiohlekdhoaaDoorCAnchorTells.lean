/-
  suturelaw09.AnchorTells: whatever the input the call returns true and leaves its arguments as they were. No condition of ours. The card ties the listed package-level variable (ptr.widths) to the program's text; the tie is the given one, over the pruned copy of the project.
-/
import Derived.Test.YtjahiohlekdhoaaDoorCards
import Derived.Test.YtjahiohlekdhoaaDoorTie
import Derived.Test.YtjahiohlekdhoaaDoorReads9
import Derived.Test.YtjahiohlekdhoaaDoorTells9
namespace Go.Proofs.YtjahiohlekdhoaaDoor.anchorTells
open Go Go.ChangeShapes Go.WideShapes Go.RowKit

theorem own : ownKnob Tryd.prog.godebug = none := by kernel_rfl
theorem gTab : Tryd.prog.globalNamed "suture/ptr.widths" = some 0 := by kernel_rfl
theorem gTabType : (Tryd.prog.globals[0]?).map (·.type) = some 122 := by kernel_rfl
theorem cellsT : Tryd.prog.cellsOf 122 = 5 := by kernel_rfl
theorem cellsI : Tryd.prog.cellsOf 3 = 1 := by kernel_rfl
theorem undT : Tryd.prog.underlying 122 = some (.array 5 3) := by kernel_rfl
theorem undI : Tryd.prog.underlying 3 = some (.int .i64) := by kernel_rfl
theorem laidOut : laidOutB Tryd.prog = true := by kernel_rfl
theorem u0 : (match Tryd.prog.underlying 32 with | some (.struct _) | some (.array _ _) => true | _ => false) = true := by kernel_rfl
theorem u1 : (match Tryd.prog.underlying 32 with | some (.struct _) | some (.array _ _) => true | _ => false) = true := by kernel_rfl
theorem u2 : Tryd.prog.underlying 47 = some (.slice 32) := by kernel_rfl
theorem u3 : (match Tryd.prog.underlying 37 with | some (.struct _) | some (.array _ _) => true | _ => false) = true := by kernel_rfl
theorem u4 : Tryd.prog.underlying 22 = some (.int .u32) := by kernel_rfl

theorem table {W : World} (h : laidMetH Tryd.prog Rows.anchorTellsRow.laid W) : Lib.TabIs Tryd.prog W "suture/ptr.widths" .i64 [1, 2, 2, 4, 8] :=
  Lib.tabIs_of_head (rest := []) gTab gTabType undT undI cellsI cellsT h
theorem gw {W : World} (h : laidMetH Tryd.prog Rows.anchorTellsRow.laid W) : GW.p V0 W := by
  intro i v hv
  have hi : i < 5 := by
    rcases Nat.lt_or_ge i 5 with h | h
    · exact h
    · rw [List.getElem?_eq_none (by simpa using h)] at hv; cases hv
  refine ⟨⟨0, 0, none⟩, rfl, not_V0 _, ?_⟩
  have hc := (table h).cell gTab i (by simpa using hi)
  rw [addr_add, Nat.zero_add]
  rw [hc]
  match i, hi with
  | 0, _ => exact hv
  | 1, _ => exact hv
  | 2, _ => exact hv
  | 3, _ => exact hv
  | 4, _ => exact hv

set_option maxRecDepth 100000 in
theorem contract (H : Type) (enc : TypeId × Value → H) (W : World) (base : Nat) (args : Array Value) (ds gs : List (DataW H)) (before : List MemPlace)
    (hval : ∀ (j : Nat) t v, Tryd.f6.params[j]? = some t → args[j]? = some v → Value.okWide Tryd.prog W .any base t v)
    (hW : DataW.Whole enc Tryd.prog Tryd.f6.params.toList Rows.anchorTellsSpec.vars false W args.toList ds gs before) (hL : laidMetH Tryd.prog Rows.anchorTellsRow.laid W) :
    Calls Tryd.prog 6 args W fun e W' => ∃ v, e = .returned v ∧ Rows.anchorTellsSpec.post enc Tryd.prog Tryd.f6 false true false false W args v W' := by
  have hW' := hW
  obtain ⟨p, q, hA, hV, _, _, _⟩ := hW
  rw [Tryd.params6] at hA hval
  obtain ⟨v0, vs0, d0, ds0, p0, q0, hargs, rfl, rfl, ⟨f0, h0⟩, r0⟩ := trodAll_cons hA
  obtain ⟨v1, vs1, d1, ds1, p1, q1, rfl, rfl, rfl, ⟨f1, h1⟩, r1⟩ := trodAll_cons r0
  obtain ⟨v2, vs2, d2, ds2, p2, q2, rfl, rfl, rfl, ⟨f2, h2⟩, r2⟩ := trodAll_cons r1
  obtain ⟨v3, vs3, d3, ds3, p3, q3, rfl, rfl, rfl, ⟨f3, h3⟩, r3⟩ := trodAll_cons r2
  obtain ⟨v4, vs4, d4, ds4, p4, q4, rfl, rfl, rfl, ⟨f4, h4⟩, r4⟩ := trodAll_cons r3
  obtain ⟨rfl, rfl, rfl⟩ := trodAll_nil r4
  obtain rfl : args = #[v0, v1, v2, v3, v4] := by cases args; simp_all
  obtain ⟨x0, hx0, hR0⟩ := rdAnc h0
  obtain rfl := arg_agg u0 (hval 0 32 v0 rfl rfl) hx0
  obtain ⟨x1, hx1, hR1⟩ := rdAnc h1
  obtain rfl := arg_agg u1 (hval 1 32 v1 rfl rfl) hx1
  obtain ⟨x2, hx2, hR2⟩ := rdAncs h2
  obtain rfl := arg_slice u2 (hval 2 47 v2 rfl rfl) hx2
  obtain ⟨x3, hx3, hR3⟩ := rdPage h3
  obtain rfl := arg_agg u3 (hval 3 37 v3 rfl rfl) hx3
  obtain ⟨x4, hx4, hR4⟩ := rd32 h4
  obtain rfl := arg_int u4 (hval 4 22 v4 rfl rfl) hx4
  have hc := (c_lawTells x0 x1 x2.ba x2.cap x2.xs x3.1 x4 hR0.1 (Sl.len hR2.1) x3.2).below (w := W) (by intro φ h; simp at h; rcases h with rfl | rfl | rfl; exact hR0.2; exact hR1.2; exact hR2.2.1) (gw hL)
  refine hc.mono fun e W' ⟨he, hb⟩ => ⟨_, he, ?_⟩
  exact post_of_below (bt := 4) laidOut (by kernel_rfl) rfl (by kernel_rfl) (by kernel_rfl) hW' rfl hb

/-- A world for the witness: the settled one, the table (block 0) holding what its initialiser lays. -/
noncomputable def laidWorld (os : Os) : World :=
  { World.holding Tryd.prog os ⟨#[], #[], []⟩ with heap := (World.holding Tryd.prog os ⟨#[], #[], []⟩).heap.modify 0 fun
      | .cells _ t frozen => .cells #[.int .i64 1, .int .i64 2, .int .i64 2, .int .i64 4, .int .i64 8] t frozen
      | o => o }
def wArgs : Array Value := #[zeroA.v, zeroA.v, .slice none 0 0, .agg (bv (zeros 256)).toArray, .int .u32 0]
theorem laid_met (os : Os) : laidMet Tryd.prog Rows.anchorTellsRow.laid ((laidWorld os).forCall (fun _ _ => 0) ⟨#[], wArgs, []⟩).memory :=
  laidMet_of_run' 8 (by kernel_rfl) (by kernel_rfl)
theorem reads (os : Os) {H : Type} (enc : TypeId × Value → H) : ∃ places, DataW.whole enc Tryd.prog ((laidWorld os).forCall (fun _ _ => 0) ⟨#[], wArgs, []⟩).memory Tryd.f6.params.toList Rows.anchorTellsSpec.vars false wArgs.toList 8 = some ([.agg [.lit (.int .u32 0), .lit (.int .u16 0), .agg [.lit (.int .u8 0), .agg [.lit (.int .u16 0), .lit (.int .u16 0)], .lit (.int .u32 0), .lit (.int .u64 0)], .lit (.int .u32 0), .lit (.int .u8 0), .lit (.int .u32 0), .agg [.lit (.int .u8 0), .lit (.int .u8 0), .lit (.int .u32 0), .nil]], .agg [.lit (.int .u32 0), .lit (.int .u16 0), .agg [.lit (.int .u8 0), .agg [.lit (.int .u16 0), .lit (.int .u16 0)], .lit (.int .u32 0), .lit (.int .u64 0)], .lit (.int .u32 0), .lit (.int .u8 0), .lit (.int .u32 0), .agg [.lit (.int .u8 0), .lit (.int .u8 0), .lit (.int .u32 0), .nil]], .nil, .agg (List.replicate 256 (.lit (.int .u8 0))), .lit (.int .u32 0)], [], places) :=
  ⟨[], by kernel_rfl⟩

set_option maxRecDepth 100000 in
theorem lifted (os : Os) (started : os.Started) (H : Type) (enc : TypeId × Value → H) (F : Stop.Interp) :
    ReturnsInHanded {} Tryd.checked os 6 .any ((OpenSpec.ofChange Rows.anchorTellsSpec).preRow enc Tryd.prog Tryd.f6 Rows.anchorTellsRow.domain false Rows.anchorTellsRow.laid) (((OpenSpec.ofChange Rows.anchorTellsSpec).at F).post enc Tryd.prog Tryd.f6 false true false false) := by
  obtain ⟨places, hx⟩ := reads os enc
  refine returnsInHanded_of_row (C := Tryd.checked) (s := OpenSpec.ofChange Rows.anchorTellsSpec) own started (by kernel_rfl) Tryd.func6
    (witness_row_at (enc := enc) (C := Tryd.checked) false (laidWorld os) wArgs rfl (by kernel_rfl) (by kernel_rfl) (by kernel_rfl)
      (OpenSpec.preRow_of_cond 8 hx (by kernel_rfl) (fun k hk => by cases hk) (by kernel_rfl) (laid_met os))) ?_
  intro W base args ds gs before hval hW _ _ _ hL _ _
  exact contract H enc W base args ds gs before hval hW hL

theorem said : Rows.AnchorTellsSaid :=
  OpenClaim.holds_of_cond 6 Tryd.f6 rfl rfl rfl rfl rfl rfl rfl ⟨rfl, rfl, rfl, rfl, rfl⟩ rfl rfl rfl rfl rfl (by kernel_rfl) Tryd.func6 (by kernel_rfl)
    (of_decide_eq_true (by kernel_rfl)) (by unfold Func.isWrapper; first | (rw [if_pos (by decide +kernel)]; kernel_rfl) | (rw [if_neg (by decide +kernel)]; exact ⟨rfl, rfl⟩))
    (fun os started H enc _ F => by rw [OpenClaim.pre_eq_preRow]; exact lifted os started H enc F)

theorem plain (f : FuncId) (fn : Func) (hf : Tryd.pinned.checked.prog.funcNamed "suture/suturelaw09.AnchorTells" = some f) (hfn : Tryd.pinned.checked.prog.funcs[f]? = some fn) :
    false = Tryd.pinned.checked.prog.looks [] ∧ ∀ (j : Nat) t, fn.params[j]? = some t → Tryd.pinned.checked.prog.wantsStandIn t = false := by
  obtain rfl : f = 6 := Option.some.inj ((show Tryd.prog.funcNamed "suture/suturelaw09.AnchorTells" = some 6 by kernel_rfl).symm.trans hf) |>.symm
  obtain rfl : fn = Tryd.f6 := (Option.some.inj (Tryd.func6.symm.trans hfn)).symm
  refine ⟨by kernel_rfl, fun j t ht => ?_⟩
  rw [Tryd.params6] at ht
  have hm : t ∈ [32, 32, 47, 37, 22] := by simpa using Array.mem_of_getElem? ht
  have hall : ([32, 32, 47, 37, 22].all fun t => Tryd.prog.wantsStandIn t == false) = true := by kernel_rfl
  exact eq_of_beq (List.all_eq_true.1 hall t hm)

/-- THE CARD. -/
theorem card : Rows.AnchorTellsCardSaid :=
  Claim7.holds_tied_plain_at .later [] _ _ _ _ said (fun _ h => by cases h) (by kernel_rfl) (fun _ h => by cases h) anchorTells_row_tie rfl ⟨rfl, rfl⟩ (by kernel_rfl) rfl plain (by kernel_rfl)
#print axioms card
end Go.Proofs.YtjahiohlekdhoaaDoor.anchorTells
