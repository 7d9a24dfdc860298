/-
  The walks of the document's anchors: which may be, slots, the newest one.
-/
import Derived.Test.YtjahiohlekdhoaaDoorRef5b
import Derived.Test.YtjahiohlekdhoaaDoorLaw9
namespace Go.Proofs.YtjahiohlekdhoaaDoor
open Go
set_option maxHeartbeats 4000000
set_option maxRecDepth 4000
attribute [local irreducible] SW SL SP RA Then FQ IQ LoopQ RQ AQ NX CutQ Exit.noGoto

theorem c_r9slot (G : Res) (tx : UInt32) : Ctr Tryd.prog G 25 [v32 tx] [] [] (ret1 (vi ((tx % 4).toNat : Int))) := by
  refine Ctr.intro Tryd.func25 (by kernel_rfl) rfl Tryd.ntmps25 rfl rfl rfl fun w X => ?_
  refine sw_seq ?_
  refine sw_region ?_
  refine r_assign (k := ?_)
  refine sl_nil ?_
  refine sp_then ?_
  refine sw_seq ?_
  refine sw_region ?_
  refine r_move (k := ?_)
  refine r_rem32c (k := ?_)
  refine r_cv_32_i (k := ?_)
  refine r_assign (k := ?_)
  refine sl_nil ?_
  refine sp_then ?_
  refine sw_ret ?_
  refine sp_retv rfl rfl (.tmp rfl) rfl rfl ⟨rfl, rfl, rfl⟩ (by simp) rfl (by simp)

def r9m (m : MkV) (tx : UInt32) : Bool :=
  if (8 : Int) < (m.key.xs.length : Int) then false
  else if (m.on.toNat : Int) = 0 then decide ((m.disk.toNat : Int) = 0) && (decide ((m.since.toNat : Int) = 0) && decide ((m.key.xs.length : Int) = 0))
  else if (m.on.toNat : Int) = 1 then decide ((m.disk.toNat : Int) = 0) && decide ((m.since.toNat : Int) = 0)
  else if (m.on.toNat : Int) = 2 then decide ((m.disk.toNat : Int) ≤ 1) && decide ((m.since.toNat : Int) ≤ (tx.toNat : Int))
  else false
theorem r9m_eq (m : MkV) (tx : UInt32) : markedV m tx = r9m m tx := by
  unfold markedV r9m
  by_cases h8 : (8 : Int) < (m.key.xs.length : Int)
  · rw [if_pos h8, if_pos h8]
  · rw [if_neg h8, if_neg h8]
    by_cases h0 : (m.on.toNat : Int) = 0
    · rw [if_neg (by omega), if_pos h0]
      by_cases hk : (0 : Int) < (m.key.xs.length : Int)
      · rw [if_pos ⟨h0, hk⟩, decide_eq_false (show ¬ (m.key.xs.length : Int) = 0 by omega)]; simp
      · rw [if_neg (by omega), decide_eq_true (show (m.key.xs.length : Int) = 0 by omega), decide_eq_true (show (m.on.toNat : Int) ≤ 1 by omega)]; simp
    · rw [if_neg h0]
      by_cases h1 : (m.on.toNat : Int) = 1
      · rw [if_neg (by omega), if_neg (by omega), if_pos h1, decide_eq_true (show (m.on.toNat : Int) ≤ 1 by omega)]; simp
      · rw [if_neg h1]
        by_cases h2 : (m.on.toNat : Int) = 2
        · rw [if_pos h2, if_pos h2]
        · rw [if_neg h2, if_neg (by omega), if_neg h2, decide_eq_false (show ¬ (m.on.toNat : Int) ≤ 1 by omega)]; simp

theorem c_r9marked (G : Res) (m : MkV) (tx : UInt32) : Ctr Tryd.prog G 24 [m.v, v32 tx] [] [m.key.res] (ret1 (vb (markedV m tx))) := by
  refine Ctr.intro Tryd.func24 (by kernel_rfl) rfl Tryd.ntmps24 rfl rfl rfl fun w X => ?_
  refine sw_seq ?_
  refine sw_region ?_
  refine r_box (k := fun bx => ?_)
  refine r_assign (k := ?_)
  refine sl_nil ?_
  refine sp_then ?_
  refine sw_seq ?_
  refine sw_seq ?_
  refine sw_region ?_
  refine r_fieldAddr (k := ?_)
  refine r_load_one (k := ?_)
  refine r_len (k := ?_)
  refine r_gtr (k := ?_)
  refine sl_nil ?_
  refine sp_then ?_
  refine sw_cond (h1 := fun hg => ?_) (h2 := fun hg => ?_)
  focus
    refine sw_seq ?_
    refine sw_region ?_
    refine r_assign (k := ?_)
    refine sl_nil ?_
    refine sp_then ?_
    refine sw_ret ?_
    refine sp_then_ret ?_
  rotate_left 1
  focus
    refine sw_skip ?_
    refine sp_then ?_
    refine sw_seq ?_
    refine sw_seq ?_
    refine sw_region ?_
    refine r_fieldAddr (k := ?_)
    refine r_load_one (k := ?_)
    refine sl_nil ?_
    refine sp_then ?_
    refine sw_block ?_
    refine sw_seq ?_
    refine sw_region ?_
    refine r_eql (k := ?_)
    refine r_assign (k := ?_)
    refine sl_nil ?_
    refine sp_then ?_
    refine sw_cond (h1 := fun hg => ?_) (h2 := fun hg => ?_)
    focus
      refine sw_seq ?_
      refine sw_region ?_
      refine r_fieldAddr (k := ?_)
      refine r_load_one (k := ?_)
      refine r_eql (k := ?_)
      refine r_move (k := ?_)
      refine g_part (h1 := fun hg => ?_) (h2 := fun hg => ?_)
      focus
        refine gd_yes (k := ?_)
        refine r_fieldAddr (k := ?_)
        refine gd_yes (k := ?_)
        refine r_load_one (k := ?_)
        refine gd_yes (k := ?_)
        refine r_eql (k := ?_)
        refine rd_pick_t (k := ?_)
        refine r_move (k := ?_)
        refine g_part (h1 := fun hg => ?_) (h2 := fun hg => ?_)
        focus
          refine gd_yes (k := ?_)
          refine r_fieldAddr (k := ?_)
          refine gd_yes (k := ?_)
          refine r_load_one (k := ?_)
          refine gd_yes (k := ?_)
          refine r_len (k := ?_)
          refine gd_yes (k := ?_)
          refine r_eql (k := ?_)
          refine rd_pick_t (k := ?_)
          refine r_assign (k := ?_)
          refine sl_nil ?_
          refine sp_then ?_
          refine sw_ret ?_
          refine sp_block_ret ?_
          refine sp_then_ret ?_
        rotate_left 1
        focus
          refine gd_no (k := ?_)
          refine gd_no (k := ?_)
          refine gd_no (k := ?_)
          refine gd_no (k := ?_)
          refine rd_pick_f (k := ?_)
          refine r_assign (k := ?_)
          refine sl_nil ?_
          refine sp_then ?_
          refine sw_ret ?_
          refine sp_block_ret ?_
          refine sp_then_ret ?_
        rotate_left 1
      rotate_left 2
      focus
        refine gd_no (k := ?_)
        refine gd_no (k := ?_)
        refine gd_no (k := ?_)
        refine rd_pick_f (k := ?_)
        refine r_move (k := ?_)
        refine gd_no (k := ?_)
        refine gd_no (k := ?_)
        refine gd_no (k := ?_)
        refine gd_no (k := ?_)
        refine rd_pick_f (k := ?_)
        refine r_assign (k := ?_)
        refine sl_nil ?_
        refine sp_then ?_
        refine sw_ret ?_
        refine sp_block_ret ?_
        refine sp_then_ret ?_
      rotate_left 1
    rotate_left 3
    focus
      refine sw_seq ?_
      refine sw_region ?_
      refine r_eql (k := ?_)
      refine r_assign (k := ?_)
      refine sl_nil ?_
      refine sp_then ?_
      refine sw_cond (h1 := fun hg => ?_) (h2 := fun hg => ?_)
      focus
        refine sw_seq ?_
        refine sw_region ?_
        refine r_fieldAddr (k := ?_)
        refine r_load_one (k := ?_)
        refine r_eql (k := ?_)
        refine r_move (k := ?_)
        refine g_part (h1 := fun hg => ?_) (h2 := fun hg => ?_)
        focus
          refine gd_yes (k := ?_)
          refine r_fieldAddr (k := ?_)
          refine gd_yes (k := ?_)
          refine r_load_one (k := ?_)
          refine gd_yes (k := ?_)
          refine r_eql (k := ?_)
          refine rd_pick_t (k := ?_)
          refine r_assign (k := ?_)
          refine sl_nil ?_
          refine sp_then ?_
          refine sw_ret ?_
          refine sp_block_ret ?_
          refine sp_then_ret ?_
        rotate_left 1
        focus
          refine gd_no (k := ?_)
          refine gd_no (k := ?_)
          refine gd_no (k := ?_)
          refine rd_pick_f (k := ?_)
          refine r_assign (k := ?_)
          refine sl_nil ?_
          refine sp_then ?_
          refine sw_ret ?_
          refine sp_block_ret ?_
          refine sp_then_ret ?_
        rotate_left 1
      rotate_left 2
      focus
        refine sw_seq ?_
        refine sw_region ?_
        refine r_eql (k := ?_)
        refine r_assign (k := ?_)
        refine sl_nil ?_
        refine sp_then ?_
        refine sw_cond (h1 := fun hg => ?_) (h2 := fun hg => ?_)
        focus
          refine sw_seq ?_
          refine sw_region ?_
          refine r_fieldAddr (k := ?_)
          refine r_load_one (k := ?_)
          refine r_leq (k := ?_)
          refine r_move (k := ?_)
          refine g_part (h1 := fun hg => ?_) (h2 := fun hg => ?_)
          focus
            refine gd_yes (k := ?_)
            refine r_fieldAddr (k := ?_)
            refine gd_yes (k := ?_)
            refine r_load_one (k := ?_)
            refine gd_yes (k := ?_)
            refine r_move (k := ?_)
            refine gd_yes (k := ?_)
            refine r_leq (k := ?_)
            refine rd_pick_t (k := ?_)
            refine r_assign (k := ?_)
            refine sl_nil ?_
            refine sp_then ?_
            refine sw_ret ?_
            refine sp_block_ret ?_
            refine sp_then_ret ?_
          rotate_left 1
          focus
            refine gd_no (k := ?_)
            refine gd_no (k := ?_)
            refine gd_no (k := ?_)
            refine gd_no (k := ?_)
            refine rd_pick_f (k := ?_)
            refine r_assign (k := ?_)
            refine sl_nil ?_
            refine sp_then ?_
            refine sw_ret ?_
            refine sp_block_ret ?_
            refine sp_then_ret ?_
          rotate_left 1
        rotate_left 2
        focus
          refine sw_skip ?_
          refine sp_block ?_
          refine sp_then ?_
          refine sw_seq ?_
          refine sw_region ?_
          refine r_assign (k := ?_)
          refine sl_nil ?_
          refine sp_then ?_
          refine sw_ret ?_
        rotate_left 1
      rotate_left 3
    rotate_left 5
  rotate_left 8
  all_goals refine sp_retv rfl rfl (.tmp rfl) rfl rfl ⟨?_, rfl, rfl⟩ (by simp) rfl (by simp)
  all_goals rw [r9m_eq]
  all_goals (simp_all [r9m] <;> (intros; omega))

def r9r (a : AncV) : Bool :=
  if a.fine = false then false
  else if a.root = PtrV.none then decide ((a.count.toNat : Int) = 0)
  else a.root.isMeta && (a.root.right (a.size.toNat : Int) && (decide ((a.root.birth.toNat : Int) ≤ (a.tx.toNat : Int)) && decide ((0 : Int) < (a.count.toNat : Int))))
theorem r9r_eq (a : AncV) : a.right = r9r a := by
  unfold AncV.right r9r
  cases a.fine
  · simp
  · simp only [Bool.true_and, Bool.true_eq_false, if_false]
    split
    · rfl
    · have : decide ((1 : Int) ≤ (a.count.toNat : Int)) = decide ((0 : Int) < (a.count.toNat : Int)) := by
        by_cases h : (0 : Int) < (a.count.toNat : Int)
        · rw [decide_eq_true h, decide_eq_true (by omega)]
        · rw [decide_eq_false h, decide_eq_false (by omega)]
      rw [this]
      cases decide ((0 : Int) < (a.count.toNat : Int)) <;> simp
def r9f (a : AncV) : Bool := decide ((a.tx.toNat : Int) < 1) || (decide ((1073741824 : Int) < (a.tx.toNat : Int)) || (decide ((a.size.toNat : Int) < 32) || (decide ((256 : Int) < (a.size.toNat : Int)) || (decide ((a.live.toNat : Int) < 1) || (decide ((3 : Int) < (a.live.toNat : Int)) || (decide ((a.tx.toNat : Int) < (a.both.toNat : Int)) || !(markedV a.mark a.tx)))))))
theorem r9f_eq (a : AncV) : a.fine = !(r9f a) := by
  unfold AncV.fine r9f
  simp only [Bool.not_or, Bool.not_not, ← decide_not, Int.not_lt]

theorem c_r9right (G : Res) (a : AncV) : Ctr Tryd.prog G 22 [a.v] [] [a.mark.key.res] (ret1 (vb a.right)) := by
  refine Ctr.intro Tryd.func22 (by kernel_rfl) rfl Tryd.ntmps22 rfl rfl rfl fun w X => ?_
  refine sw_seq ?_
  refine sw_region ?_
  refine r_box (cs := a.cs) (by exact rfl) rfl (by exact rfl) fun bx => ?_
  refine r_assign (by exact rfl) (by exact rfl) ?_
  refine sl_nil ?_
  refine sp_then ?_
  refine sw_seq ?_
  refine sw_cut [(1, .pointer (some ⟨bx, 0, none⟩)), (45, vb (r9f a))] [.box bx a.cs 32] [a.mark.key.res] [] ?_ ?_
  · refine sw_region ?_
    refine r_fieldAddr (k := ?_)
    refine r_load_one (k := ?_)
    refine r_lss (k := ?_)
    refine r_move (k := ?_)
    refine g_part (h1 := fun hg => ?_) (h2 := fun hg => ?_)
    focus
      refine gd_no (k := ?_)
      refine gd_no (k := ?_)
      refine gd_no (k := ?_)
      refine rd_pick_t (k := ?_)
      refine r_move (k := ?_)
      refine gd_no (k := ?_)
      refine gd_no (k := ?_)
      refine gd_no (k := ?_)
      refine rd_pick_t (k := ?_)
      refine r_move (k := ?_)
      refine gd_no (k := ?_)
      refine gd_no (k := ?_)
      refine gd_no (k := ?_)
      refine rd_pick_t (k := ?_)
      refine r_move (k := ?_)
      refine gd_no (k := ?_)
      refine gd_no (k := ?_)
      refine gd_no (k := ?_)
      refine rd_pick_t (k := ?_)
      refine r_move (k := ?_)
      refine gd_no (k := ?_)
      refine gd_no (k := ?_)
      refine gd_no (k := ?_)
      refine rd_pick_t (k := ?_)
      refine r_move (k := ?_)
      refine gd_no (k := ?_)
      refine gd_no (k := ?_)
      refine gd_no (k := ?_)
      refine gd_no (k := ?_)
      refine gd_no (k := ?_)
      refine rd_pick_t (k := ?_)
      refine r_move (k := ?_)
      refine gd_no (k := ?_)
      refine gd_no (k := ?_)
      refine gd_no (k := ?_)
      refine gd_no (k := ?_)
      refine gd_no (k := ?_)
      refine gd_no (k := ?_)
      refine rd_pick_t (k := ?_)
      refine sl_nil ?_
    rotate_left 1
    focus
      refine gd_yes (k := ?_)
      refine r_fieldAddr (k := ?_)
      refine gd_yes (k := ?_)
      refine r_load_one (k := ?_)
      refine gd_yes (k := ?_)
      refine r_gtr (k := ?_)
      refine rd_pick_f (k := ?_)
      refine r_move (k := ?_)
      refine g_part (h1 := fun hg => ?_) (h2 := fun hg => ?_)
      focus
        refine gd_no (k := ?_)
        refine gd_no (k := ?_)
        refine gd_no (k := ?_)
        refine rd_pick_t (k := ?_)
        refine r_move (k := ?_)
        refine gd_no (k := ?_)
        refine gd_no (k := ?_)
        refine gd_no (k := ?_)
        refine rd_pick_t (k := ?_)
        refine r_move (k := ?_)
        refine gd_no (k := ?_)
        refine gd_no (k := ?_)
        refine gd_no (k := ?_)
        refine rd_pick_t (k := ?_)
        refine r_move (k := ?_)
        refine gd_no (k := ?_)
        refine gd_no (k := ?_)
        refine gd_no (k := ?_)
        refine rd_pick_t (k := ?_)
        refine r_move (k := ?_)
        refine gd_no (k := ?_)
        refine gd_no (k := ?_)
        refine gd_no (k := ?_)
        refine gd_no (k := ?_)
        refine gd_no (k := ?_)
        refine rd_pick_t (k := ?_)
        refine r_move (k := ?_)
        refine gd_no (k := ?_)
        refine gd_no (k := ?_)
        refine gd_no (k := ?_)
        refine gd_no (k := ?_)
        refine gd_no (k := ?_)
        refine gd_no (k := ?_)
        refine rd_pick_t (k := ?_)
        refine sl_nil ?_
      rotate_left 1
      focus
        refine gd_yes (k := ?_)
        refine r_fieldAddr (k := ?_)
        refine gd_yes (k := ?_)
        refine r_load_one (k := ?_)
        refine gd_yes (k := ?_)
        refine r_lss (k := ?_)
        refine rd_pick_f (k := ?_)
        refine r_move (k := ?_)
        refine g_part (h1 := fun hg => ?_) (h2 := fun hg => ?_)
        focus
          refine gd_no (k := ?_)
          refine gd_no (k := ?_)
          refine gd_no (k := ?_)
          refine rd_pick_t (k := ?_)
          refine r_move (k := ?_)
          refine gd_no (k := ?_)
          refine gd_no (k := ?_)
          refine gd_no (k := ?_)
          refine rd_pick_t (k := ?_)
          refine r_move (k := ?_)
          refine gd_no (k := ?_)
          refine gd_no (k := ?_)
          refine gd_no (k := ?_)
          refine rd_pick_t (k := ?_)
          refine r_move (k := ?_)
          refine gd_no (k := ?_)
          refine gd_no (k := ?_)
          refine gd_no (k := ?_)
          refine gd_no (k := ?_)
          refine gd_no (k := ?_)
          refine rd_pick_t (k := ?_)
          refine r_move (k := ?_)
          refine gd_no (k := ?_)
          refine gd_no (k := ?_)
          refine gd_no (k := ?_)
          refine gd_no (k := ?_)
          refine gd_no (k := ?_)
          refine gd_no (k := ?_)
          refine rd_pick_t (k := ?_)
          refine sl_nil ?_
        rotate_left 1
        focus
          refine gd_yes (k := ?_)
          refine r_fieldAddr (k := ?_)
          refine gd_yes (k := ?_)
          refine r_load_one (k := ?_)
          refine gd_yes (k := ?_)
          refine r_gtr (k := ?_)
          refine rd_pick_f (k := ?_)
          refine r_move (k := ?_)
          refine g_part (h1 := fun hg => ?_) (h2 := fun hg => ?_)
          focus
            refine gd_no (k := ?_)
            refine gd_no (k := ?_)
            refine gd_no (k := ?_)
            refine rd_pick_t (k := ?_)
            refine r_move (k := ?_)
            refine gd_no (k := ?_)
            refine gd_no (k := ?_)
            refine gd_no (k := ?_)
            refine rd_pick_t (k := ?_)
            refine r_move (k := ?_)
            refine gd_no (k := ?_)
            refine gd_no (k := ?_)
            refine gd_no (k := ?_)
            refine gd_no (k := ?_)
            refine gd_no (k := ?_)
            refine rd_pick_t (k := ?_)
            refine r_move (k := ?_)
            refine gd_no (k := ?_)
            refine gd_no (k := ?_)
            refine gd_no (k := ?_)
            refine gd_no (k := ?_)
            refine gd_no (k := ?_)
            refine gd_no (k := ?_)
            refine rd_pick_t (k := ?_)
            refine sl_nil ?_
          rotate_left 1
          focus
            refine gd_yes (k := ?_)
            refine r_fieldAddr (k := ?_)
            refine gd_yes (k := ?_)
            refine r_load_one (k := ?_)
            refine gd_yes (k := ?_)
            refine r_lss (k := ?_)
            refine rd_pick_f (k := ?_)
            refine r_move (k := ?_)
            refine g_part (h1 := fun hg => ?_) (h2 := fun hg => ?_)
            focus
              refine gd_no (k := ?_)
              refine gd_no (k := ?_)
              refine gd_no (k := ?_)
              refine rd_pick_t (k := ?_)
              refine r_move (k := ?_)
              refine gd_no (k := ?_)
              refine gd_no (k := ?_)
              refine gd_no (k := ?_)
              refine gd_no (k := ?_)
              refine gd_no (k := ?_)
              refine rd_pick_t (k := ?_)
              refine r_move (k := ?_)
              refine gd_no (k := ?_)
              refine gd_no (k := ?_)
              refine gd_no (k := ?_)
              refine gd_no (k := ?_)
              refine gd_no (k := ?_)
              refine gd_no (k := ?_)
              refine rd_pick_t (k := ?_)
              refine sl_nil ?_
            rotate_left 1
            focus
              refine gd_yes (k := ?_)
              refine r_fieldAddr (k := ?_)
              refine gd_yes (k := ?_)
              refine r_load_one (k := ?_)
              refine gd_yes (k := ?_)
              refine r_gtr (k := ?_)
              refine rd_pick_f (k := ?_)
              refine r_move (k := ?_)
              refine g_part (h1 := fun hg => ?_) (h2 := fun hg => ?_)
              focus
                refine gd_no (k := ?_)
                refine gd_no (k := ?_)
                refine gd_no (k := ?_)
                refine gd_no (k := ?_)
                refine gd_no (k := ?_)
                refine rd_pick_t (k := ?_)
                refine r_move (k := ?_)
                refine gd_no (k := ?_)
                refine gd_no (k := ?_)
                refine gd_no (k := ?_)
                refine gd_no (k := ?_)
                refine gd_no (k := ?_)
                refine gd_no (k := ?_)
                refine rd_pick_t (k := ?_)
                refine sl_nil ?_
              rotate_left 1
              focus
                refine gd_yes (k := ?_)
                refine r_fieldAddr (k := ?_)
                refine gd_yes (k := ?_)
                refine r_load_one (k := ?_)
                refine gd_yes (k := ?_)
                refine r_fieldAddr (k := ?_)
                refine gd_yes (k := ?_)
                refine r_load_one (k := ?_)
                refine gd_yes (k := ?_)
                refine r_gtr (k := ?_)
                refine rd_pick_f (k := ?_)
                refine r_move (k := ?_)
                refine g_part (h1 := fun hg => ?_) (h2 := fun hg => ?_)
                focus
                  refine gd_no (k := ?_)
                  refine gd_no (k := ?_)
                  refine gd_no (k := ?_)
                  refine gd_no (k := ?_)
                  refine gd_no (k := ?_)
                  refine gd_no (k := ?_)
                  refine rd_pick_t (k := ?_)
                  refine sl_nil ?_
                rotate_left 1
                focus
                  refine gd_yes (k := ?_)
                  refine r_fieldAddr (k := ?_)
                  refine gd_yes (k := ?_)
                  refine r_load_agg (k := ?_)
                  refine gd_yes (k := ?_)
                  refine r_fieldAddr (k := ?_)
                  refine gd_yes (k := ?_)
                  refine r_load_one (k := ?_)
                  refine gd_yes (k := ?_)
                rotate_left 1
              rotate_left 2
            rotate_left 3
          rotate_left 4
        rotate_left 5
      rotate_left 6
    rotate_left 7
    any_goals refine r_call1 (c_r9marked G a.mark a.tx) (by exact rfl) (by exact rfl) (by exact rfl) (by simp) (by exact rfl) ?_
    rotate_left 1
    rotate_left 1
    rotate_left 1
    rotate_left 1
    rotate_left 1
    rotate_left 1
    rotate_left 1
    focus
      refine gd_yes (k := ?_)
      refine r_not (k := ?_)
      refine rd_pick_f (k := ?_)
      refine sl_nil ?_
    rotate_left 1
    all_goals refine sp_re (t := 45) (v' := vb (r9f a)) rfl ?_ (sp_cut (by repeat' (first | trivial | exact rfl | apply And.intro)) (by repeat' (first | trivial | exact .head _ | exact .tail _ (.head _) | exact .tail _ (.tail _ (.head _)) | exact .tail _ (.tail _ (.tail _ (.head _))) | exact .tail _ (.tail _ (.tail _ (.tail _ (.head _)))) | exact .tail _ (.tail _ (.tail _ (.tail _ (.tail _ (.head _))))) | exact .tail _ (.tail _ (.tail _ (.tail _ (.tail _ (.tail _ (.head _)))))) | exact .tail _ (.tail _ (.tail _ (.tail _ (.tail _ (.tail _ (.tail _ (.head _))))))) | exact .tail _ (.tail _ (.tail _ (.tail _ (.tail _ (.tail _ (.tail _ (.tail _ (.head _)))))))) | exact .tail _ (.tail _ (.tail _ (.tail _ (.tail _ (.tail _ (.tail _ (.tail _ (.tail _ (.head _))))))))) | exact .tail _ (.tail _ (.tail _ (.tail _ (.tail _ (.tail _ (.tail _ (.tail _ (.tail _ (.tail _ (.head _)))))))))) | exact .tail _ (.tail _ (.tail _ (.tail _ (.tail _ (.tail _ (.tail _ (.tail _ (.tail _ (.tail _ (.tail _ (.head _))))))))))) | apply And.intro)))
    all_goals simp_all [r9f]
    rw [decide_eq_false (show ¬ (a.tx.toNat : Int) < 1 by omega), decide_eq_false (show ¬ (1073741824 : Int) < (a.tx.toNat : Int) by omega), decide_eq_false (show ¬ (a.size.toNat : Int) < 32 by omega), decide_eq_false (show ¬ (256 : Int) < (a.size.toNat : Int) by omega), decide_eq_false (show ¬ (a.live.toNat : Int) < 1 by omega), decide_eq_false (show ¬ (3 : Int) < (a.live.toNat : Int) by omega), decide_eq_false (show ¬ a.tx.toNat < a.both.toNat by omega)]
    simp
  · rw [r9r_eq]
    unfold r9r
    rw [r9f_eq]
    refine sw_cond rfl (fun h => ?_) (fun h => ?_)
    · rw [h]
      refine sw_seq ?_
      refine sw_region ?_
      refine r_assign (k := ?_)
      refine sl_nil ?_
      refine sp_then ?_
      refine sw_ret ?_
      refine sp_then_ret ?_
      refine sp_retv rfl rfl (.tmp rfl) rfl rfl ⟨rfl, rfl, rfl⟩ (by simp) rfl (by simp)
    rw [h]
    simp only [Bool.not_false, Bool.true_eq_false, if_false]
    refine sw_skip ?_
    refine sp_then ?_
    refine sw_seq ?_
    refine sw_seq ?_
    refine sw_region ?_
    refine r_fieldAddr (k := ?_)
    refine r_load_agg (k := ?_)
    refine r_call1 (c_r5none G a.root) (by exact rfl) (by exact rfl) (by exact rfl) (by simp) (by exact rfl) ?_
    refine sl_nil ?_
    refine sp_then ?_
    refine sw_cond rfl (fun h => ?_) (fun h => ?_)
    · have h := of_decide_eq_true h
      rw [if_pos h]
      refine sw_seq ?_
      refine sw_region ?_
      refine r_fieldAddr (k := ?_)
      refine r_load_one (k := ?_)
      refine r_eql (k := ?_)
      refine r_assign (k := ?_)
      refine sl_nil ?_
      refine sp_then ?_
      refine sw_ret ?_
      refine sp_then_ret ?_
      refine sp_retv rfl rfl (.tmp rfl) rfl rfl ⟨rfl, rfl, rfl⟩ (by simp) rfl (by simp)
    · have h := of_decide_eq_false h
      rw [if_neg h]
      refine sw_skip ?_
      refine sp_then ?_
      refine sw_seq ?_
      refine sw_region ?_
      refine r_fieldAddr (k := ?_)
      refine r_load_agg (k := ?_)
      refine r_call1 (c_r5meta G a.root) (by exact rfl) (by exact rfl) (by exact rfl) (by simp) (by exact rfl) ?_
      refine r_move (k := ?_)
      refine g_part (h1 := fun hg => ?_) (h2 := fun hg => ?_)
      focus
        refine gd_yes (k := ?_)
        refine r_fieldAddr (k := ?_)
        refine gd_yes (k := ?_)
        refine r_load_agg (k := ?_)
        refine gd_yes (k := ?_)
        refine r_fieldAddr (k := ?_)
        refine gd_yes (k := ?_)
        refine r_load_one (k := ?_)
        refine gd_yes (k := ?_)
        refine r_cv_16_i (k := ?_)
        refine gd_yes (k := ?_)
      rotate_left 1
      focus
        refine gd_no (k := ?_)
        refine gd_no (k := ?_)
        refine gd_no (k := ?_)
        refine gd_no (k := ?_)
        refine gd_no (k := ?_)
        refine gd_no (k := ?_)
        refine rd_pick_f (k := ?_)
        refine r_move (k := ?_)
        refine gd_no (k := ?_)
        refine gd_no (k := ?_)
        refine gd_no (k := ?_)
        refine gd_no (k := ?_)
        refine gd_no (k := ?_)
        refine gd_no (k := ?_)
        refine rd_pick_f (k := ?_)
        refine r_move (k := ?_)
        refine gd_no (k := ?_)
        refine gd_no (k := ?_)
        refine gd_no (k := ?_)
        refine rd_pick_f (k := ?_)
        refine r_assign (k := ?_)
        refine sl_nil ?_
        refine sp_then ?_
        refine sw_ret ?_
      rotate_left 1
      any_goals refine r_call1 (c_r5right G a.root (a.size.toNat : Int)) (by exact rfl) (by exact rfl) (by exact rfl) (by simp) (by exact rfl) ?_
      focus
        refine rd_pick_t (k := ?_)
        refine r_move (k := ?_)
        refine g_part (h1 := fun hg => ?_) (h2 := fun hg => ?_)
        focus
          refine gd_yes (k := ?_)
          refine r_fieldAddr (k := ?_)
          refine gd_yes (k := ?_)
          refine r_fieldAddr (k := ?_)
          refine gd_yes (k := ?_)
          refine r_load_one (k := ?_)
          refine gd_yes (k := ?_)
          refine r_fieldAddr (k := ?_)
          refine gd_yes (k := ?_)
          refine r_load_one (k := ?_)
          refine gd_yes (k := ?_)
          refine r_leq (k := ?_)
          refine rd_pick_t (k := ?_)
          refine r_move (k := ?_)
          refine g_part (h1 := fun hg => ?_) (h2 := fun hg => ?_)
          focus
            refine gd_yes (k := ?_)
            refine r_fieldAddr (k := ?_)
            refine gd_yes (k := ?_)
            refine r_load_one (k := ?_)
            refine gd_yes (k := ?_)
            refine r_gtr (k := ?_)
            refine rd_pick_t (k := ?_)
            refine r_assign (k := ?_)
            refine sl_nil ?_
            refine sp_then ?_
            refine sw_ret ?_
          rotate_left 1
          focus
            refine gd_no (k := ?_)
            refine gd_no (k := ?_)
            refine gd_no (k := ?_)
            refine rd_pick_f (k := ?_)
            refine r_assign (k := ?_)
            refine sl_nil ?_
            refine sp_then ?_
            refine sw_ret ?_
          rotate_left 1
        rotate_left 2
        focus
          refine gd_no (k := ?_)
          refine gd_no (k := ?_)
          refine gd_no (k := ?_)
          refine gd_no (k := ?_)
          refine gd_no (k := ?_)
          refine gd_no (k := ?_)
          refine rd_pick_f (k := ?_)
          refine r_move (k := ?_)
          refine gd_no (k := ?_)
          refine gd_no (k := ?_)
          refine gd_no (k := ?_)
          refine rd_pick_f (k := ?_)
          refine r_assign (k := ?_)
          refine sl_nil ?_
          refine sp_then ?_
          refine sw_ret ?_
        rotate_left 1
      rotate_left 3
      rotate_left 1
      all_goals refine sp_retv rfl rfl (.tmp rfl) rfl rfl ⟨?_, rfl, rfl⟩ (by simp) rfl (by simp)
      all_goals (simp_all <;> (intros; omega))
end Go.Proofs.YtjahiohlekdhoaaDoor
