/-
  The walks of the document's pointers.
-/
import Derived.Test.YtjahiohlekdhoaaDoorRef2b
import Derived.Test.YtjahiohlekdhoaaDoorPtr
namespace Go.Proofs.YtjahiohlekdhoaaDoor
open Go
set_option maxHeartbeats 4000000
set_option maxRecDepth 4000
attribute [local irreducible] SW SL SP RA Then FQ IQ LoopQ RQ AQ NX CutQ Exit.noGoto

theorem c_r5none (G : Res) (x : PtrV) : Ctr Tryd.prog G 65 [x.v] [] [] (ret1 (vb (decide (x = PtrV.none)))) := by
  refine Ctr.intro Tryd.func65 (by kernel_rfl) rfl Tryd.ntmps65 rfl rfl rfl fun w X => ?_
  refine sw_seq ?_
  refine sw_region ?_
  refine r_box (k := fun bx => ?_)
  refine r_assign (k := ?_)
  refine sl_nil ?_
  refine sp_then ?_
  refine sw_seq ?_
  refine sw_region ?_
  refine r_load_all (k := ?_)
  refine r_buildP PtrV.none.cs (parts := []) (by exact rfl) (by kernel_rfl) (by exact rfl) ?_
  refine r_eqagg (xs := x.cs.toArray) (ys := PtrV.none.cs.toArray) (by exact rfl) (by exact rfl) (by kernel_rfl) (ptr_eq x PtrV.none) (by exact rfl) ?_
  refine r_assign (k := ?_)
  refine sl_nil ?_
  refine sp_then ?_
  refine sw_ret ?_
  refine sp_retv rfl rfl (.tmp rfl) rfl rfl ⟨rfl, rfl, rfl⟩ (by simp) rfl (by simp)
theorem c_r5meta (G : Res) (x : PtrV) : Ctr Tryd.prog G 66 [x.v] [] [] (ret1 (vb x.isMeta)) := by
  refine Ctr.intro Tryd.func66 (by kernel_rfl) rfl Tryd.ntmps66 rfl rfl rfl fun w X => ?_
  refine sw_seq ?_
  refine sw_region ?_
  refine r_box (k := fun bx => ?_)
  refine r_assign (k := ?_)
  refine sl_nil ?_
  refine sp_then ?_
  refine sw_seq ?_
  refine sw_region ?_
  refine r_fieldAddr (k := ?_)
  refine r_load_one (k := ?_)
  refine r_eql (k := ?_)
  refine r_move (k := ?_)
  refine g_part (h1 := fun hg => ?_) (h2 := fun hg => ?_)
  focus
    refine gd_no (k := ?_)
    refine gd_no (k := ?_)
    refine gd_no (k := ?_)
    refine rd_pick_t (k := ?_)
    refine r_assign (k := ?_)
    refine sl_nil ?_
    refine sp_then ?_
    refine sw_ret ?_
  rotate_left 1
  focus
    refine gd_yes (k := ?_)
    refine r_fieldAddr (k := ?_)
    refine gd_yes (k := ?_)
    refine r_load_one (k := ?_)
    refine gd_yes (k := ?_)
    refine r_eql (k := ?_)
    refine rd_pick_f (k := ?_)
    refine r_assign (k := ?_)
    refine sl_nil ?_
    refine sp_then ?_
    refine sw_ret ?_
  rotate_left 1
  all_goals refine sp_retv rfl rfl (.tmp rfl) rfl rfl ⟨?_, rfl, rfl⟩ (by simp) rfl (by simp)
  all_goals simp_all [PtrV.isMeta]

def placeV (n : UInt16) (size : Int) : Bool := decide ((4 : Int) ≤ (n.toNat : Int)) && decide ((n.toNat : Int) < size)
theorem c_place (G : Res) (n : UInt16) (size : Int) : Ctr Tryd.prog G 95 [v16 n, vi size] [] [] (ret1 (vb (placeV n size))) := by
  refine Ctr.intro Tryd.func95 (by kernel_rfl) rfl Tryd.ntmps95 rfl rfl rfl fun w X => ?_
  refine sw_seq ?_
  refine sw_region ?_
  refine r_assign (k := ?_)
  refine sl_nil ?_
  refine sp_then ?_
  refine sw_seq ?_
  refine sw_region ?_
  refine r_move (k := ?_)
  refine r_cv_16_i (k := ?_)
  refine r_geq (k := ?_)
  refine r_move (k := ?_)
  refine g_part (h1 := fun hg => ?_) (h2 := fun hg => ?_)
  focus
    refine gd_yes (k := ?_)
    refine r_move (k := ?_)
    refine gd_yes (k := ?_)
    refine r_cv_16_i (k := ?_)
    refine gd_yes (k := ?_)
    refine r_move (k := ?_)
    refine gd_yes (k := ?_)
    refine r_lss (k := ?_)
    refine rd_pick_t (k := ?_)
    refine r_assign (k := ?_)
    refine sl_nil ?_
    refine sp_then ?_
    refine sw_ret ?_
  rotate_left 1
  focus
    refine gd_no (k := ?_)
    refine gd_no (k := ?_)
    refine gd_no (k := ?_)
    refine gd_no (k := ?_)
    refine rd_pick_f (k := ?_)
    refine r_assign (k := ?_)
    refine sl_nil ?_
    refine sp_then ?_
    refine sw_ret ?_
  rotate_left 1
  all_goals refine sp_retv rfl rfl (.tmp rfl) rfl rfl ⟨?_, rfl, rfl⟩ (by simp) rfl (by simp)
  all_goals (simp_all [placeV] <;> (intros; omega))

def r5V (x : PtrV) (size : Int) : Bool :=
  if (x.birth.toNat : Int) < 1 ∨ (1073741824 : Int) < (x.birth.toNat : Int) ∨ placeV x.a0 size = false then false
  else if x.isMeta = true then placeV x.a1 size && decide ((x.a0.toNat : Int) ≠ (x.a1.toNat : Int)) else decide ((x.kind.toNat : Int) = 3) && decide ((x.a1.toNat : Int) = 0)
theorem r5_eq (x : PtrV) (size : Int) : x.right size = r5V x size := by
  have hm3 : x.isMeta = true → ¬ (x.kind.toNat : Int) = 3 := by
    unfold PtrV.isMeta
    simp only [Bool.or_eq_true, decide_eq_true_eq]
    omega
  unfold PtrV.right PtrV.pre PtrV.addrs r5V
  cases hm : x.isMeta with
  | true =>
    have h3 := hm3 hm
    simp only [if_true, Bool.true_and, decide_eq_false h3, Bool.false_and, Bool.or_false, List.all_cons, List.all_nil, Bool.and_true]
    rw [Bool.eq_iff_iff]
    split
    · rename_i h
      simp only [Bool.and_eq_true, decide_eq_true_eq, Bool.false_eq_true, iff_false, placeV] at h ⊢
      rintro ⟨⟨⟨a, b⟩, c⟩, ⟨d, e⟩, _⟩
      rcases h with h | h | h
      · omega
      · omega
      · rw [decide_eq_true d, decide_eq_true e] at h; cases h
    · rename_i h
      simp only [not_or, Bool.not_eq_false] at h
      simp only [placeV, Bool.and_eq_true, decide_eq_true_eq] at h ⊢
      omega
  | false =>
    by_cases h3 : (x.kind.toNat : Int) = 3
    · simp only [Bool.false_eq_true, if_false, if_pos h3, Bool.false_and, Bool.false_or, decide_eq_true h3, Bool.true_and, List.all_cons, List.all_nil, Bool.and_true]
      rw [Bool.eq_iff_iff]
      split
      · rename_i h
        simp only [Bool.and_eq_true, decide_eq_true_eq, Bool.false_eq_true, iff_false] at h ⊢
        rintro ⟨⟨⟨a, b⟩, c⟩, d, e⟩
        rcases h with h | h | h
        · omega
        · omega
        · unfold placeV at h; rw [decide_eq_true d, decide_eq_true e] at h; cases h
      · rename_i h
        simp only [not_or, Bool.not_eq_false] at h
        simp only [placeV, Bool.and_eq_true, decide_eq_true_eq] at h ⊢
        omega
    · simp only [Bool.false_eq_true, if_false, if_neg h3, Bool.false_and, Bool.false_or, decide_eq_false h3, Bool.and_false, List.all_nil]
      split <;> rfl

theorem c_r5right (G : Res) (x : PtrV) (size : Int) : Ctr Tryd.prog G 67 [x.v, vi size] [] [] (ret1 (vb (x.right size))) := by
  refine Ctr.intro Tryd.func67 (by kernel_rfl) rfl Tryd.ntmps67 rfl rfl rfl fun w X => ?_
  refine sw_seq ?_
  refine sw_region ?_
  refine r_box (k := fun bx => ?_)
  refine r_assign (k := ?_)
  refine sl_nil ?_
  refine sp_then ?_
  refine sw_seq ?_
  refine sw_seq ?_
  refine sw_region ?_
  refine r_fieldAddr (k := ?_)
  refine r_load_one (k := ?_)
  refine r_lss (k := ?_)
  refine r_move (k := ?_)
  refine g_part (h1 := fun hg => ?_) (h2 := fun hg => ?_)
  focus
    refine gd_no (k := ?_)
    refine gd_no (k := ?_)
    refine gd_no (k := ?_)
    refine rd_pick_t (k := ?_)
    refine r_move (k := ?_)
    refine gd_no (k := ?_)
    refine gd_no (k := ?_)
    refine gd_no (k := ?_)
    refine gd_no (k := ?_)
    refine gd_no (k := ?_)
    refine gd_no (k := ?_)
    refine rd_pick_t (k := ?_)
    refine sl_nil ?_
    refine sp_then ?_
    refine swd_t (h := ?_)
    refine sw_seq ?_
    refine sw_region ?_
    refine r_assign (k := ?_)
    refine sl_nil ?_
    refine sp_then ?_
    refine sw_ret ?_
    refine sp_then_ret ?_
  rotate_left 1
  focus
    refine gd_yes (k := ?_)
    refine r_fieldAddr (k := ?_)
    refine gd_yes (k := ?_)
    refine r_load_one (k := ?_)
    refine gd_yes (k := ?_)
    refine r_gtr (k := ?_)
    refine rd_pick_f (k := ?_)
    refine r_move (k := ?_)
    refine g_part (h1 := fun hg => ?_) (h2 := fun hg => ?_)
    focus
      refine gd_no (k := ?_)
      refine gd_no (k := ?_)
      refine gd_no (k := ?_)
      refine gd_no (k := ?_)
      refine gd_no (k := ?_)
      refine gd_no (k := ?_)
      refine rd_pick_t (k := ?_)
      refine sl_nil ?_
      refine sp_then ?_
      refine swd_t (h := ?_)
      refine sw_seq ?_
      refine sw_region ?_
      refine r_assign (k := ?_)
      refine sl_nil ?_
      refine sp_then ?_
      refine sw_ret ?_
      refine sp_then_ret ?_
    rotate_left 1
    focus
      refine gd_yes (k := ?_)
      refine r_fieldAddr (k := ?_)
      refine gd_yes (k := ?_)
      refine r_idx_arr (k := ?_)
      refine gd_yes (k := ?_)
      refine r_load_one (k := ?_)
      refine gd_yes (k := ?_)
      refine r_move (k := ?_)
      refine gd_yes (k := ?_)
    rotate_left 1
  rotate_left 2
  any_goals refine r_call1 (c_place G x.a0 size) (by exact rfl) (by exact rfl) (by exact rfl) (by simp) (by exact rfl) ?_
  rotate_left 1
  rotate_left 1
  focus
    refine gd_yes (k := ?_)
    refine r_not (k := ?_)
    refine rd_pick_f (k := ?_)
    refine sl_nil ?_
    refine sp_then ?_
    refine sw_cond (h1 := fun hg => ?_) (h2 := fun hg => ?_)
    focus
      refine sw_seq ?_
      refine sw_region ?_
      refine r_assign (k := ?_)
      refine sl_nil ?_
      refine sp_then ?_
      refine sw_ret ?_
      refine sp_then_ret ?_
    rotate_left 1
    focus
      refine sw_skip ?_
      refine sp_then ?_
      refine sw_seq ?_
      refine sw_seq ?_
      refine sw_region ?_
      refine r_load_all (k := ?_)
    rotate_left 1
  rotate_left 2
  any_goals refine r_call1 (c_r5meta G x) (by exact rfl) (by exact rfl) (by exact rfl) (by simp) (by exact rfl) ?_
  rotate_left 1
  rotate_left 1
  rotate_left 1
  focus
    refine sl_nil ?_
    refine sp_then ?_
    refine sw_cond (h1 := fun hg => ?_) (h2 := fun hg => ?_)
    focus
      refine sw_seq ?_
      refine sw_region ?_
      refine r_fieldAddr (k := ?_)
      refine r_idx_arr (k := ?_)
      refine r_load_one (k := ?_)
      refine r_move (k := ?_)
    rotate_left 1
    focus
      refine sw_skip ?_
      refine sp_then ?_
      refine sw_seq ?_
      refine sw_region ?_
      refine r_fieldAddr (k := ?_)
      refine r_load_one (k := ?_)
      refine r_eql (k := ?_)
      refine r_move (k := ?_)
      refine g_part (h1 := fun hg => ?_) (h2 := fun hg => ?_)
      focus
        refine gd_yes (k := ?_)
        refine r_fieldAddr (k := ?_)
        refine gd_yes (k := ?_)
        refine r_idx_arr (k := ?_)
        refine gd_yes (k := ?_)
        refine r_load_one (k := ?_)
        refine gd_yes (k := ?_)
        refine r_eql (k := ?_)
        refine rd_pick_t (k := ?_)
        refine r_assign (k := ?_)
        refine sl_nil ?_
        refine sp_then ?_
        refine sw_ret ?_
      rotate_left 1
      focus
        refine gd_no (k := ?_)
        refine gd_no (k := ?_)
        refine gd_no (k := ?_)
        refine gd_no (k := ?_)
        refine rd_pick_f (k := ?_)
        refine r_assign (k := ?_)
        refine sl_nil ?_
        refine sp_then ?_
        refine sw_ret ?_
      rotate_left 1
    rotate_left 2
  rotate_left 3
  any_goals refine r_call1 (c_place G x.a1 size) (by exact rfl) (by exact rfl) (by exact rfl) (by simp) (by exact rfl) ?_
  rotate_left 1
  rotate_left 1
  rotate_left 1
  focus
    refine r_move (k := ?_)
    refine g_part (h1 := fun hg => ?_) (h2 := fun hg => ?_)
    focus
      refine gd_yes (k := ?_)
      refine r_fieldAddr (k := ?_)
      refine gd_yes (k := ?_)
      refine r_idx_arr (k := ?_)
      refine gd_yes (k := ?_)
      refine r_load_one (k := ?_)
      refine gd_yes (k := ?_)
      refine r_fieldAddr (k := ?_)
      refine gd_yes (k := ?_)
      refine r_idx_arr (k := ?_)
      refine gd_yes (k := ?_)
      refine r_load_one (k := ?_)
      refine gd_yes (k := ?_)
      refine r_neq (k := ?_)
      refine rd_pick_t (k := ?_)
      refine r_assign (k := ?_)
      refine sl_nil ?_
      refine sp_then ?_
      refine sw_ret ?_
      refine sp_then_ret ?_
    rotate_left 1
    focus
      refine gd_no (k := ?_)
      refine gd_no (k := ?_)
      refine gd_no (k := ?_)
      refine gd_no (k := ?_)
      refine gd_no (k := ?_)
      refine gd_no (k := ?_)
      refine gd_no (k := ?_)
      refine rd_pick_f (k := ?_)
      refine r_assign (k := ?_)
      refine sl_nil ?_
      refine sp_then ?_
      refine sw_ret ?_
      refine sp_then_ret ?_
    rotate_left 1
  rotate_left 2
  rotate_left 1
  rotate_left 1
  all_goals refine sp_retv rfl rfl (.tmp rfl) rfl rfl ⟨?_, rfl, rfl⟩ (by simp) rfl (by simp)
  all_goals rw [r5_eq]
  all_goals simp_all [r5V]
  all_goals (intros; omega)
end Go.Proofs.YtjahiohlekdhoaaDoor
