/-
  The walks of package anchor, the small ones.
-/
import Derived.Test.YtjahiohlekdhoaaDoorPtr
import Derived.Test.YtjahiohlekdhoaaDoorPack2
namespace Go.Proofs.YtjahiohlekdhoaaDoor
open Go
set_option maxHeartbeats 4000000
set_option maxRecDepth 4000
attribute [local irreducible] SW SL SP RA Then FQ IQ LoopQ RQ AQ NX CutQ Exit.noGoto

/-- A mark. -/
structure MkV where
  on : UInt8
  disk : UInt8
  since : UInt32
  key : BS
def MkV.cs (m : MkV) : List Value := [v8 m.on, v8 m.disk, v32 m.since, m.key.v]
def MkV.v (m : MkV) : Value := .agg m.cs.toArray
/-- An anchor. -/
structure AncV where
  tx : UInt32
  size : UInt16
  root : PtrV
  count : UInt32
  live : UInt8
  both : UInt32
  mark : MkV
def AncV.cs (a : AncV) : List Value := [v32 a.tx, v16 a.size, v8 a.root.kind, v16 a.root.a0, v16 a.root.a1, v32 a.root.birth, v64 a.root.sum, v32 a.count, v8 a.live, v32 a.both, v8 a.mark.on, v8 a.mark.disk, v32 a.mark.since, a.mark.key.v]
def AncV.v (a : AncV) : Value := .agg a.cs.toArray

theorem c_slot (G : Res) (tx : UInt32) : Ctr Tryd.prog G 19 [v32 tx] [] [] (ret1 (vi ((tx % 4).toNat : Int))) := by
  refine Ctr.intro Tryd.func19 (by kernel_rfl) rfl Tryd.ntmps19 rfl rfl rfl fun w X => ?_
  refine sw_seq ?_
  refine sw_region ?_
  refine r_assign (k := ?_)
  refine sl_nil ?_
  refine sp_then ?_
  refine sw_seq ?_
  refine sw_region ?_
  refine r_move (k := ?_)
  refine r_rem32c (k := ?_)
  refine r_cv_32_i (k := ?_)
  refine r_assign (k := ?_)
  refine sl_nil ?_
  refine sp_then ?_
  refine sw_ret ?_
  refine sp_retv rfl rfl (.tmp rfl) rfl rfl ⟨rfl, rfl, rfl⟩ (by simp) rfl (by simp)

theorem tstr : Tryd.prog.underlying 9 = some .string := by kernel_rfl

def alikeV (a b : MkV) : Bool := decide ((a.on.toNat : Int) = (b.on.toNat : Int)) && (decide ((a.disk.toNat : Int) = (b.disk.toNat : Int)) && (decide ((a.since.toNat : Int) = (b.since.toNat : Int)) && (a.key.xs == b.key.xs)))
theorem c_alike (G : Res) (a b : MkV) : Ctr Tryd.prog G 28 [a.v, b.v] [] [a.key.res, b.key.res] (ret1 (vb (alikeV a b))) := by
  refine Ctr.intro Tryd.func28 (by kernel_rfl) rfl Tryd.ntmps28 rfl rfl rfl fun w X => ?_
  refine sw_seq ?_
  refine sw_region ?_
  refine r_box (k := fun bx => ?_)
  refine r_box (k := fun bx => ?_)
  refine r_assign (k := ?_)
  refine sl_nil ?_
  refine sp_then ?_
  refine sw_seq ?_
  refine sw_region ?_
  refine r_fieldAddr (k := ?_)
  refine r_load_one (k := ?_)
  refine r_fieldAddr (k := ?_)
  refine r_load_one (k := ?_)
  refine r_eql (k := ?_)
  refine r_move (k := ?_)
  refine g_part (h1 := fun hg => ?_) (h2 := fun hg => ?_)
  focus
    refine gd_yes (k := ?_)
    refine r_fieldAddr (k := ?_)
    refine gd_yes (k := ?_)
    refine r_load_one (k := ?_)
    refine gd_yes (k := ?_)
    refine r_fieldAddr (k := ?_)
    refine gd_yes (k := ?_)
    refine r_load_one (k := ?_)
    refine gd_yes (k := ?_)
    refine r_eql (k := ?_)
    refine rd_pick_t (k := ?_)
    refine r_move (k := ?_)
    refine g_part (h1 := fun hg => ?_) (h2 := fun hg => ?_)
    focus
      refine gd_yes (k := ?_)
      refine r_fieldAddr (k := ?_)
      refine gd_yes (k := ?_)
      refine r_load_one (k := ?_)
      refine gd_yes (k := ?_)
      refine r_fieldAddr (k := ?_)
      refine gd_yes (k := ?_)
      refine r_load_one (k := ?_)
      refine gd_yes (k := ?_)
      refine r_eql (k := ?_)
      refine rd_pick_t (k := ?_)
      refine r_move (k := ?_)
      refine g_part (h1 := fun hg => ?_) (h2 := fun hg => ?_)
      focus
        refine gd_yes (k := ?_)
        refine r_fieldAddr (k := ?_)
        refine gd_yes (k := ?_)
        refine r_load_one (k := ?_)
        refine gd_yes (k := ?_)
      rotate_left 1
      focus
        refine gd_no (k := ?_)
        refine gd_no (k := ?_)
        refine gd_no (k := ?_)
        refine gd_no (k := ?_)
        refine gd_no (k := ?_)
        refine gd_no (k := ?_)
        refine gd_no (k := ?_)
        refine rd_pick_f (k := ?_)
        refine r_assign (k := ?_)
        refine sl_nil ?_
        refine sp_then ?_
        refine sw_ret ?_
      rotate_left 1
    rotate_left 2
    focus
      refine gd_no (k := ?_)
      refine gd_no (k := ?_)
      refine gd_no (k := ?_)
      refine gd_no (k := ?_)
      refine gd_no (k := ?_)
      refine rd_pick_f (k := ?_)
      refine r_move (k := ?_)
      refine gd_no (k := ?_)
      refine gd_no (k := ?_)
      refine gd_no (k := ?_)
      refine gd_no (k := ?_)
      refine gd_no (k := ?_)
      refine gd_no (k := ?_)
      refine gd_no (k := ?_)
      refine rd_pick_f (k := ?_)
      refine r_assign (k := ?_)
      refine sl_nil ?_
      refine sp_then ?_
      refine sw_ret ?_
    rotate_left 1
  rotate_left 3
  focus
    refine gd_no (k := ?_)
    refine gd_no (k := ?_)
    refine gd_no (k := ?_)
    refine gd_no (k := ?_)
    refine gd_no (k := ?_)
    refine rd_pick_f (k := ?_)
    refine r_move (k := ?_)
    refine gd_no (k := ?_)
    refine gd_no (k := ?_)
    refine gd_no (k := ?_)
    refine gd_no (k := ?_)
    refine gd_no (k := ?_)
    refine rd_pick_f (k := ?_)
    refine r_move (k := ?_)
    refine gd_no (k := ?_)
    refine gd_no (k := ?_)
    refine gd_no (k := ?_)
    refine gd_no (k := ?_)
    refine gd_no (k := ?_)
    refine gd_no (k := ?_)
    refine gd_no (k := ?_)
    refine rd_pick_f (k := ?_)
    refine r_assign (k := ?_)
    refine sl_nil ?_
    refine sp_then ?_
    refine sw_ret ?_
  rotate_left 1
  any_goals refine r_str (s := a.key) (by exact tl rfl) (by exact ti rfl) (by exact tstr) (by exact rfl) (by first | exact .head _ | exact .tail _ (.head _) | exact .tail _ (.tail _ (.head _)) | exact .tail _ (.tail _ (.tail _ (.head _))) | exact .tail _ (.tail _ (.tail _ (.tail _ (.head _)))) | exact .tail _ (.tail _ (.tail _ (.tail _ (.tail _ (.head _))))) | exact .tail _ (.tail _ (.tail _ (.tail _ (.tail _ (.tail _ (.head _)))))) | exact .tail _ (.tail _ (.tail _ (.tail _ (.tail _ (.tail _ (.tail _ (.head _))))))) | exact .tail _ (.tail _ (.tail _ (.tail _ (.tail _ (.tail _ (.tail _ (.tail _ (.head _)))))))) | exact .tail _ (.tail _ (.tail _ (.tail _ (.tail _ (.tail _ (.tail _ (.tail _ (.tail _ (.head _))))))))) | exact .tail _ (.tail _ (.tail _ (.tail _ (.tail _ (.tail _ (.tail _ (.tail _ (.tail _ (.tail _ (.head _)))))))))) | exact .tail _ (.tail _ (.tail _ (.tail _ (.tail _ (.tail _ (.tail _ (.tail _ (.tail _ (.tail _ (.tail _ (.head _)))))))))))) (by exact rfl) ?_
  focus
    refine gd_yes (k := ?_)
    refine r_fieldAddr (k := ?_)
    refine gd_yes (k := ?_)
    refine r_load_one (k := ?_)
    refine gd_yes (k := ?_)
  rotate_left 1
  rotate_left 1
  rotate_left 1
  rotate_left 1
  any_goals refine r_str (s := b.key) (by exact tl rfl) (by exact ti rfl) (by exact tstr) (by exact rfl) (by first | exact .head _ | exact .tail _ (.head _) | exact .tail _ (.tail _ (.head _)) | exact .tail _ (.tail _ (.tail _ (.head _))) | exact .tail _ (.tail _ (.tail _ (.tail _ (.head _)))) | exact .tail _ (.tail _ (.tail _ (.tail _ (.tail _ (.head _))))) | exact .tail _ (.tail _ (.tail _ (.tail _ (.tail _ (.tail _ (.head _)))))) | exact .tail _ (.tail _ (.tail _ (.tail _ (.tail _ (.tail _ (.tail _ (.head _))))))) | exact .tail _ (.tail _ (.tail _ (.tail _ (.tail _ (.tail _ (.tail _ (.tail _ (.head _)))))))) | exact .tail _ (.tail _ (.tail _ (.tail _ (.tail _ (.tail _ (.tail _ (.tail _ (.tail _ (.head _))))))))) | exact .tail _ (.tail _ (.tail _ (.tail _ (.tail _ (.tail _ (.tail _ (.tail _ (.tail _ (.tail _ (.head _)))))))))) | exact .tail _ (.tail _ (.tail _ (.tail _ (.tail _ (.tail _ (.tail _ (.tail _ (.tail _ (.tail _ (.tail _ (.head _)))))))))))) (by exact rfl) ?_
  focus
    refine gd_yes (k := ?_)
  rotate_left 1
  rotate_left 1
  rotate_left 1
  rotate_left 1
  any_goals refine r_streq (xs := a.key.xs) (ys := b.key.xs) (by exact rfl) (by exact rfl) (by exact rfl) ?_
  focus
    refine rd_pick_t (k := ?_)
    refine r_assign (k := ?_)
    refine sl_nil ?_
    refine sp_then ?_
    refine sw_ret ?_
  rotate_left 1
  rotate_left 1
  rotate_left 1
  rotate_left 1
  all_goals refine sp_retv rfl rfl (.tmp rfl) rfl rfl ⟨?_, rfl, rfl⟩ (by simp) rfl (by simp)
  all_goals simp_all [alikeV]

def markedV (m : MkV) (tx : UInt32) : Bool :=
  if (8 : Int) < (m.key.xs.length : Int) then false
  else if (m.on.toNat : Int) = 2 then decide ((m.disk.toNat : Int) ≤ 1) && decide ((m.since.toNat : Int) ≤ (tx.toNat : Int))
  else if (m.on.toNat : Int) = 0 ∧ (0 : Int) < (m.key.xs.length : Int) then false
  else decide ((m.on.toNat : Int) ≤ 1) && (decide ((m.disk.toNat : Int) = 0) && decide ((m.since.toNat : Int) = 0))
theorem c_marked (G : Res) (m : MkV) (tx : UInt32) : Ctr Tryd.prog G 23 [m.v, v32 tx] [] [m.key.res] (ret1 (vb (markedV m tx))) := by
  refine Ctr.intro Tryd.func23 (by kernel_rfl) rfl Tryd.ntmps23 rfl rfl rfl fun w X => ?_
  refine sw_seq ?_
  refine sw_region ?_
  refine r_box (k := fun bx => ?_)
  refine r_assign (k := ?_)
  refine sl_nil ?_
  refine sp_then ?_
  refine sw_seq ?_
  refine sw_block ?_
  refine sw_seq ?_
  refine sw_region ?_
  refine r_fieldAddr (k := ?_)
  refine r_load_one (k := ?_)
  refine r_len (k := ?_)
  refine r_gtr (k := ?_)
  refine r_assign (k := ?_)
  refine sl_nil ?_
  refine sp_then ?_
  refine sw_cond (h1 := fun hg => ?_) (h2 := fun hg => ?_)
  focus
    refine sw_seq ?_
    refine sw_region ?_
    refine r_assign (k := ?_)
    refine sl_nil ?_
    refine sp_then ?_
    refine sw_ret ?_
    refine sp_block_ret ?_
    refine sp_then_ret ?_
  rotate_left 1
  focus
    refine sw_seq ?_
    refine sw_region ?_
    refine r_fieldAddr (k := ?_)
    refine r_load_one (k := ?_)
    refine r_eql (k := ?_)
    refine r_assign (k := ?_)
    refine sl_nil ?_
    refine sp_then ?_
    refine sw_cond (h1 := fun hg => ?_) (h2 := fun hg => ?_)
    focus
      refine sw_seq ?_
      refine sw_region ?_
      refine r_fieldAddr (k := ?_)
      refine r_load_one (k := ?_)
      refine r_leq (k := ?_)
      refine r_move (k := ?_)
      refine g_part (h1 := fun hg => ?_) (h2 := fun hg => ?_)
      focus
        refine gd_yes (k := ?_)
        refine r_fieldAddr (k := ?_)
        refine gd_yes (k := ?_)
        refine r_load_one (k := ?_)
        refine gd_yes (k := ?_)
        refine r_move (k := ?_)
        refine gd_yes (k := ?_)
        refine r_leq (k := ?_)
        refine rd_pick_t (k := ?_)
        refine r_assign (k := ?_)
        refine sl_nil ?_
        refine sp_then ?_
        refine sw_ret ?_
        refine sp_block_ret ?_
        refine sp_then_ret ?_
      rotate_left 1
      focus
        refine gd_no (k := ?_)
        refine gd_no (k := ?_)
        refine gd_no (k := ?_)
        refine gd_no (k := ?_)
        refine rd_pick_f (k := ?_)
        refine r_assign (k := ?_)
        refine sl_nil ?_
        refine sp_then ?_
        refine sw_ret ?_
        refine sp_block_ret ?_
        refine sp_then_ret ?_
      rotate_left 1
    rotate_left 2
    focus
      refine sw_seq ?_
      refine sw_region ?_
      refine r_fieldAddr (k := ?_)
      refine r_load_one (k := ?_)
      refine r_eql (k := ?_)
      refine r_move (k := ?_)
      refine g_part (h1 := fun hg => ?_) (h2 := fun hg => ?_)
      focus
        refine gd_yes (k := ?_)
        refine r_fieldAddr (k := ?_)
        refine gd_yes (k := ?_)
        refine r_load_one (k := ?_)
        refine gd_yes (k := ?_)
        refine r_len (k := ?_)
        refine gd_yes (k := ?_)
        refine r_gtr (k := ?_)
        refine rd_pick_t (k := ?_)
        refine r_assign (k := ?_)
        refine sl_nil ?_
        refine sp_then ?_
        refine sw_cond (h1 := fun hg => ?_) (h2 := fun hg => ?_)
        focus
          refine sw_seq ?_
          refine sw_region ?_
          refine r_assign (k := ?_)
          refine sl_nil ?_
          refine sp_then ?_
          refine sw_ret ?_
          refine sp_block_ret ?_
          refine sp_then_ret ?_
        rotate_left 1
        focus
          refine sw_skip ?_
          refine sp_block ?_
          refine sp_then ?_
          refine sw_seq ?_
          refine sw_region ?_
          refine r_fieldAddr (k := ?_)
          refine r_load_one (k := ?_)
          refine r_leq (k := ?_)
          refine r_move (k := ?_)
          refine g_part (h1 := fun hg => ?_) (h2 := fun hg => ?_)
          focus
            refine gd_yes (k := ?_)
            refine r_fieldAddr (k := ?_)
            refine gd_yes (k := ?_)
            refine r_load_one (k := ?_)
            refine gd_yes (k := ?_)
            refine r_eql (k := ?_)
            refine rd_pick_t (k := ?_)
            refine r_move (k := ?_)
            refine g_part (h1 := fun hg => ?_) (h2 := fun hg => ?_)
            focus
              refine gd_yes (k := ?_)
              refine r_fieldAddr (k := ?_)
              refine gd_yes (k := ?_)
              refine r_load_one (k := ?_)
              refine gd_yes (k := ?_)
              refine r_eql (k := ?_)
              refine rd_pick_t (k := ?_)
              refine r_assign (k := ?_)
              refine sl_nil ?_
              refine sp_then ?_
              refine sw_ret ?_
            rotate_left 1
            focus
              refine gd_no (k := ?_)
              refine gd_no (k := ?_)
              refine gd_no (k := ?_)
              refine rd_pick_f (k := ?_)
              refine r_assign (k := ?_)
              refine sl_nil ?_
              refine sp_then ?_
              refine sw_ret ?_
            rotate_left 1
          rotate_left 2
          focus
            refine gd_no (k := ?_)
            refine gd_no (k := ?_)
            refine gd_no (k := ?_)
            refine rd_pick_f (k := ?_)
            refine r_move (k := ?_)
            refine gd_no (k := ?_)
            refine gd_no (k := ?_)
            refine gd_no (k := ?_)
            refine rd_pick_f (k := ?_)
            refine r_assign (k := ?_)
            refine sl_nil ?_
            refine sp_then ?_
            refine sw_ret ?_
          rotate_left 1
        rotate_left 3
      rotate_left 4
      focus
        refine gd_no (k := ?_)
        refine gd_no (k := ?_)
        refine gd_no (k := ?_)
        refine gd_no (k := ?_)
        refine rd_pick_f (k := ?_)
        refine r_assign (k := ?_)
        refine sl_nil ?_
        refine sp_then ?_
        refine swd_f (h := ?_)
        refine sw_skip ?_
        refine sp_block ?_
        refine sp_then ?_
        refine sw_seq ?_
        refine sw_region ?_
        refine r_fieldAddr (k := ?_)
        refine r_load_one (k := ?_)
        refine r_leq (k := ?_)
        refine r_move (k := ?_)
        refine g_part (h1 := fun hg => ?_) (h2 := fun hg => ?_)
        focus
          refine gd_yes (k := ?_)
          refine r_fieldAddr (k := ?_)
          refine gd_yes (k := ?_)
          refine r_load_one (k := ?_)
          refine gd_yes (k := ?_)
          refine r_eql (k := ?_)
          refine rd_pick_t (k := ?_)
          refine r_move (k := ?_)
          refine g_part (h1 := fun hg => ?_) (h2 := fun hg => ?_)
          focus
            refine gd_yes (k := ?_)
            refine r_fieldAddr (k := ?_)
            refine gd_yes (k := ?_)
            refine r_load_one (k := ?_)
            refine gd_yes (k := ?_)
            refine r_eql (k := ?_)
            refine rd_pick_t (k := ?_)
            refine r_assign (k := ?_)
            refine sl_nil ?_
            refine sp_then ?_
            refine sw_ret ?_
          rotate_left 1
          focus
            refine gd_no (k := ?_)
            refine gd_no (k := ?_)
            refine gd_no (k := ?_)
            refine rd_pick_f (k := ?_)
            refine r_assign (k := ?_)
            refine sl_nil ?_
            refine sp_then ?_
            refine sw_ret ?_
          rotate_left 1
        rotate_left 2
        focus
          refine gd_no (k := ?_)
          refine gd_no (k := ?_)
          refine gd_no (k := ?_)
          refine rd_pick_f (k := ?_)
          refine r_move (k := ?_)
          refine gd_no (k := ?_)
          refine gd_no (k := ?_)
          refine gd_no (k := ?_)
          refine rd_pick_f (k := ?_)
          refine r_assign (k := ?_)
          refine sl_nil ?_
          refine sp_then ?_
          refine sw_ret ?_
        rotate_left 1
      rotate_left 3
    rotate_left 7
  rotate_left 9
  all_goals refine sp_retv rfl rfl (.tmp rfl) rfl rfl ⟨?_, rfl, rfl⟩ (by simp) rfl (by simp)
  all_goals (simp_all [markedV] <;> (intros; omega))

def sameV (a b : AncV) : Bool := decide ((a.tx.toNat : Int) = (b.tx.toNat : Int)) && (decide ((a.size.toNat : Int) = (b.size.toNat : Int)) && (decide (a.root = b.root) && (decide ((a.count.toNat : Int) = (b.count.toNat : Int)) && (decide ((a.live.toNat : Int) = (b.live.toNat : Int)) && (decide ((a.both.toNat : Int) = (b.both.toNat : Int)) && alikeV a.mark b.mark)))))
theorem c_same (G : Res) (a b : AncV) : Ctr Tryd.prog G 27 [a.v, b.v] [] [a.mark.key.res, b.mark.key.res] (ret1 (vb (sameV a b))) := by
  refine Ctr.intro Tryd.func27 (by kernel_rfl) rfl Tryd.ntmps27 rfl rfl rfl fun w X => ?_
  refine sw_seq ?_
  refine sw_region ?_
  refine r_box (k := fun bx => ?_)
  refine r_box (k := fun bx => ?_)
  refine r_assign (k := ?_)
  refine sl_nil ?_
  refine sp_then ?_
  refine sw_seq ?_
  refine sw_region ?_
  refine r_fieldAddr (k := ?_)
  refine r_load_one (k := ?_)
  refine r_fieldAddr (k := ?_)
  refine r_load_one (k := ?_)
  refine r_eql (k := ?_)
  refine r_move (k := ?_)
  refine g_part (h1 := fun hg => ?_) (h2 := fun hg => ?_)
  focus
    refine gd_yes (k := ?_)
    refine r_fieldAddr (k := ?_)
    refine gd_yes (k := ?_)
    refine r_load_one (k := ?_)
    refine gd_yes (k := ?_)
    refine r_fieldAddr (k := ?_)
    refine gd_yes (k := ?_)
    refine r_load_one (k := ?_)
    refine gd_yes (k := ?_)
    refine r_eql (k := ?_)
    refine rd_pick_t (k := ?_)
    refine r_move (k := ?_)
    refine g_part (h1 := fun hg => ?_) (h2 := fun hg => ?_)
    focus
      refine gd_yes (k := ?_)
      refine r_fieldAddr (k := ?_)
      refine gd_yes (k := ?_)
      refine r_load_agg (k := ?_)
      refine gd_yes (k := ?_)
      refine r_fieldAddr (k := ?_)
      refine gd_yes (k := ?_)
      refine r_load_agg (k := ?_)
      refine gd_yes (k := ?_)
    rotate_left 1
    focus
      refine gd_no (k := ?_)
      refine gd_no (k := ?_)
      refine gd_no (k := ?_)
      refine gd_no (k := ?_)
      refine gd_no (k := ?_)
      refine rd_pick_f (k := ?_)
      refine r_move (k := ?_)
      refine gd_no (k := ?_)
      refine gd_no (k := ?_)
      refine gd_no (k := ?_)
      refine gd_no (k := ?_)
      refine gd_no (k := ?_)
      refine rd_pick_f (k := ?_)
      refine r_move (k := ?_)
      refine gd_no (k := ?_)
      refine gd_no (k := ?_)
      refine gd_no (k := ?_)
      refine gd_no (k := ?_)
      refine gd_no (k := ?_)
      refine rd_pick_f (k := ?_)
      refine r_move (k := ?_)
      refine gd_no (k := ?_)
      refine gd_no (k := ?_)
      refine gd_no (k := ?_)
      refine gd_no (k := ?_)
      refine gd_no (k := ?_)
      refine rd_pick_f (k := ?_)
      refine r_move (k := ?_)
      refine gd_no (k := ?_)
      refine gd_no (k := ?_)
      refine gd_no (k := ?_)
      refine gd_no (k := ?_)
      refine gd_no (k := ?_)
      refine rd_pick_f (k := ?_)
      refine r_assign (k := ?_)
      refine sl_nil ?_
      refine sp_then ?_
      refine sw_ret ?_
    rotate_left 1
  rotate_left 2
  focus
    refine gd_no (k := ?_)
    refine gd_no (k := ?_)
    refine gd_no (k := ?_)
    refine gd_no (k := ?_)
    refine gd_no (k := ?_)
    refine rd_pick_f (k := ?_)
    refine r_move (k := ?_)
    refine gd_no (k := ?_)
    refine gd_no (k := ?_)
    refine gd_no (k := ?_)
    refine gd_no (k := ?_)
    refine gd_no (k := ?_)
    refine rd_pick_f (k := ?_)
    refine r_move (k := ?_)
    refine gd_no (k := ?_)
    refine gd_no (k := ?_)
    refine gd_no (k := ?_)
    refine gd_no (k := ?_)
    refine gd_no (k := ?_)
    refine rd_pick_f (k := ?_)
    refine r_move (k := ?_)
    refine gd_no (k := ?_)
    refine gd_no (k := ?_)
    refine gd_no (k := ?_)
    refine gd_no (k := ?_)
    refine gd_no (k := ?_)
    refine rd_pick_f (k := ?_)
    refine r_move (k := ?_)
    refine gd_no (k := ?_)
    refine gd_no (k := ?_)
    refine gd_no (k := ?_)
    refine gd_no (k := ?_)
    refine gd_no (k := ?_)
    refine rd_pick_f (k := ?_)
    refine r_move (k := ?_)
    refine gd_no (k := ?_)
    refine gd_no (k := ?_)
    refine gd_no (k := ?_)
    refine gd_no (k := ?_)
    refine gd_no (k := ?_)
    refine rd_pick_f (k := ?_)
    refine r_assign (k := ?_)
    refine sl_nil ?_
    refine sp_then ?_
    refine sw_ret ?_
  rotate_left 1
  any_goals refine r_eqagg (xs := a.root.cs.toArray) (ys := b.root.cs.toArray) (by exact rfl) (by exact rfl) (by kernel_rfl) (ptr_eq a.root b.root) (by exact rfl) ?_
  focus
    refine rd_pick_t (k := ?_)
    refine r_move (k := ?_)
    refine g_part (h1 := fun hg => ?_) (h2 := fun hg => ?_)
    focus
      refine gd_yes (k := ?_)
      refine r_fieldAddr (k := ?_)
      refine gd_yes (k := ?_)
      refine r_load_one (k := ?_)
      refine gd_yes (k := ?_)
      refine r_fieldAddr (k := ?_)
      refine gd_yes (k := ?_)
      refine r_load_one (k := ?_)
      refine gd_yes (k := ?_)
      refine r_eql (k := ?_)
      refine rd_pick_t (k := ?_)
      refine r_move (k := ?_)
      refine g_part (h1 := fun hg => ?_) (h2 := fun hg => ?_)
      focus
        refine gd_yes (k := ?_)
        refine r_fieldAddr (k := ?_)
        refine gd_yes (k := ?_)
        refine r_load_one (k := ?_)
        refine gd_yes (k := ?_)
        refine r_fieldAddr (k := ?_)
        refine gd_yes (k := ?_)
        refine r_load_one (k := ?_)
        refine gd_yes (k := ?_)
        refine r_eql (k := ?_)
        refine rd_pick_t (k := ?_)
        refine r_move (k := ?_)
        refine g_part (h1 := fun hg => ?_) (h2 := fun hg => ?_)
        focus
          refine gd_yes (k := ?_)
          refine r_fieldAddr (k := ?_)
          refine gd_yes (k := ?_)
          refine r_load_one (k := ?_)
          refine gd_yes (k := ?_)
          refine r_fieldAddr (k := ?_)
          refine gd_yes (k := ?_)
          refine r_load_one (k := ?_)
          refine gd_yes (k := ?_)
          refine r_eql (k := ?_)
          refine rd_pick_t (k := ?_)
          refine r_move (k := ?_)
          refine g_part (h1 := fun hg => ?_) (h2 := fun hg => ?_)
          focus
            refine gd_yes (k := ?_)
            refine r_fieldAddr (k := ?_)
            refine gd_yes (k := ?_)
            refine r_load_agg (k := ?_)
            refine gd_yes (k := ?_)
            refine r_fieldAddr (k := ?_)
            refine gd_yes (k := ?_)
            refine r_load_agg (k := ?_)
            refine gd_yes (k := ?_)
          rotate_left 1
          focus
            refine gd_no (k := ?_)
            refine gd_no (k := ?_)
            refine gd_no (k := ?_)
            refine gd_no (k := ?_)
            refine gd_no (k := ?_)
            refine rd_pick_f (k := ?_)
            refine r_assign (k := ?_)
            refine sl_nil ?_
            refine sp_then ?_
            refine sw_ret ?_
          rotate_left 1
        rotate_left 2
        focus
          refine gd_no (k := ?_)
          refine gd_no (k := ?_)
          refine gd_no (k := ?_)
          refine gd_no (k := ?_)
          refine gd_no (k := ?_)
          refine rd_pick_f (k := ?_)
          refine r_move (k := ?_)
          refine gd_no (k := ?_)
          refine gd_no (k := ?_)
          refine gd_no (k := ?_)
          refine gd_no (k := ?_)
          refine gd_no (k := ?_)
          refine rd_pick_f (k := ?_)
          refine r_assign (k := ?_)
          refine sl_nil ?_
          refine sp_then ?_
          refine sw_ret ?_
        rotate_left 1
      rotate_left 3
      focus
        refine gd_no (k := ?_)
        refine gd_no (k := ?_)
        refine gd_no (k := ?_)
        refine gd_no (k := ?_)
        refine gd_no (k := ?_)
        refine rd_pick_f (k := ?_)
        refine r_move (k := ?_)
        refine gd_no (k := ?_)
        refine gd_no (k := ?_)
        refine gd_no (k := ?_)
        refine gd_no (k := ?_)
        refine gd_no (k := ?_)
        refine rd_pick_f (k := ?_)
        refine r_move (k := ?_)
        refine gd_no (k := ?_)
        refine gd_no (k := ?_)
        refine gd_no (k := ?_)
        refine gd_no (k := ?_)
        refine gd_no (k := ?_)
        refine rd_pick_f (k := ?_)
        refine r_assign (k := ?_)
        refine sl_nil ?_
        refine sp_then ?_
        refine sw_ret ?_
      rotate_left 1
    rotate_left 4
    focus
      refine gd_no (k := ?_)
      refine gd_no (k := ?_)
      refine gd_no (k := ?_)
      refine gd_no (k := ?_)
      refine gd_no (k := ?_)
      refine rd_pick_f (k := ?_)
      refine r_move (k := ?_)
      refine gd_no (k := ?_)
      refine gd_no (k := ?_)
      refine gd_no (k := ?_)
      refine gd_no (k := ?_)
      refine gd_no (k := ?_)
      refine rd_pick_f (k := ?_)
      refine r_move (k := ?_)
      refine gd_no (k := ?_)
      refine gd_no (k := ?_)
      refine gd_no (k := ?_)
      refine gd_no (k := ?_)
      refine gd_no (k := ?_)
      refine rd_pick_f (k := ?_)
      refine r_move (k := ?_)
      refine gd_no (k := ?_)
      refine gd_no (k := ?_)
      refine gd_no (k := ?_)
      refine gd_no (k := ?_)
      refine gd_no (k := ?_)
      refine rd_pick_f (k := ?_)
      refine r_assign (k := ?_)
      refine sl_nil ?_
      refine sp_then ?_
      refine sw_ret ?_
    rotate_left 1
  rotate_left 5
  rotate_left 1
  rotate_left 1
  any_goals refine r_call1 (c_alike G a.mark b.mark) (by exact rfl) (by exact rfl) (by exact rfl) (by simp) (by exact rfl) ?_
  focus
    refine rd_pick_t (k := ?_)
    refine r_assign (k := ?_)
    refine sl_nil ?_
    refine sp_then ?_
    refine sw_ret ?_
  rotate_left 1
  rotate_left 1
  rotate_left 1
  rotate_left 1
  rotate_left 1
  rotate_left 1
  rotate_left 1
  all_goals refine sp_retv rfl rfl (.tmp rfl) rfl rfl ⟨?_, rfl, rfl⟩ (by simp) rfl (by simp)
  all_goals simp_all [sameV]

def AncV.fine (a : AncV) : Bool := decide ((1 : Int) ≤ (a.tx.toNat : Int)) && (decide ((a.tx.toNat : Int) ≤ 1073741824) && (decide ((32 : Int) ≤ (a.size.toNat : Int)) && (decide ((a.size.toNat : Int) ≤ 256) && (decide ((1 : Int) ≤ (a.live.toNat : Int)) && (decide ((a.live.toNat : Int) ≤ 3) && (decide ((a.both.toNat : Int) ≤ (a.tx.toNat : Int)) && markedV a.mark a.tx))))))
def AncV.right (a : AncV) : Bool :=
  if a.root = PtrV.none then a.fine && decide ((a.count.toNat : Int) = 0)
  else a.fine && (decide ((1 : Int) ≤ (a.count.toNat : Int)) && (a.root.isMeta && (a.root.right (a.size.toNat : Int) && decide ((a.root.birth.toNat : Int) ≤ (a.tx.toNat : Int)))))

theorem c_right (G : Res) (a : AncV) : Ctr Tryd.prog G 15 [a.v] [] [a.mark.key.res] (ret1 (vb a.right)) := by
  refine Ctr.intro Tryd.func15 (by kernel_rfl) rfl Tryd.ntmps15 rfl rfl rfl fun w X => ?_
  refine sw_seq ?_
  refine sw_region ?_
  refine r_box (by exact rfl) (by exact rfl) (by exact rfl) fun bx => ?_
  refine r_assign (by exact rfl) (by exact rfl) ?_
  refine sl_nil ?_
  refine sp_then ?_
  refine sw_cut [(1, .pointer (some ⟨bx, 0, none⟩)), (3, vb a.fine)] [.box bx a.cs 32] [a.mark.key.res] [] ?_ ?_
  · refine sw_region ?_
    refine r_fieldAddr (k := ?_)
    refine r_load_one (k := ?_)
    refine r_geq (k := ?_)
    refine r_move (k := ?_)
    refine g_part (h1 := fun hg => ?_) (h2 := fun hg => ?_)
    focus
      refine gd_yes (k := ?_)
      refine r_fieldAddr (k := ?_)
      refine gd_yes (k := ?_)
      refine r_load_one (k := ?_)
      refine gd_yes (k := ?_)
      refine r_leq (k := ?_)
      refine rd_pick_t (k := ?_)
      refine r_move (k := ?_)
      refine g_part (h1 := fun hg => ?_) (h2 := fun hg => ?_)
      focus
        refine gd_yes (k := ?_)
        refine r_fieldAddr (k := ?_)
        refine gd_yes (k := ?_)
        refine r_load_one (k := ?_)
        refine gd_yes (k := ?_)
        refine r_geq (k := ?_)
        refine rd_pick_t (k := ?_)
        refine r_move (k := ?_)
        refine g_part (h1 := fun hg => ?_) (h2 := fun hg => ?_)
        focus
          refine gd_yes (k := ?_)
          refine r_fieldAddr (k := ?_)
          refine gd_yes (k := ?_)
          refine r_load_one (k := ?_)
          refine gd_yes (k := ?_)
          refine r_leq (k := ?_)
          refine rd_pick_t (k := ?_)
          refine r_move (k := ?_)
          refine g_part (h1 := fun hg => ?_) (h2 := fun hg => ?_)
          focus
            refine gd_yes (k := ?_)
            refine r_fieldAddr (k := ?_)
            refine gd_yes (k := ?_)
            refine r_load_one (k := ?_)
            refine gd_yes (k := ?_)
            refine r_geq (k := ?_)
            refine rd_pick_t (k := ?_)
            refine r_move (k := ?_)
            refine g_part (h1 := fun hg => ?_) (h2 := fun hg => ?_)
            focus
              refine gd_yes (k := ?_)
              refine r_fieldAddr (k := ?_)
              refine gd_yes (k := ?_)
              refine r_load_one (k := ?_)
              refine gd_yes (k := ?_)
              refine r_leq (k := ?_)
              refine rd_pick_t (k := ?_)
              refine r_move (k := ?_)
              refine g_part (h1 := fun hg => ?_) (h2 := fun hg => ?_)
              focus
                refine gd_yes (k := ?_)
                refine r_fieldAddr (k := ?_)
                refine gd_yes (k := ?_)
                refine r_load_one (k := ?_)
                refine gd_yes (k := ?_)
                refine r_fieldAddr (k := ?_)
                refine gd_yes (k := ?_)
                refine r_load_one (k := ?_)
                refine gd_yes (k := ?_)
                refine r_leq (k := ?_)
                refine rd_pick_t (k := ?_)
                refine r_move (k := ?_)
                refine g_part (h1 := fun hg => ?_) (h2 := fun hg => ?_)
                focus
                  refine gd_yes (k := ?_)
                  refine r_fieldAddr (k := ?_)
                  refine gd_yes (k := ?_)
                  refine r_load_agg (k := ?_)
                  refine gd_yes (k := ?_)
                  refine r_fieldAddr (k := ?_)
                  refine gd_yes (k := ?_)
                  refine r_load_one (k := ?_)
                  refine gd_yes (k := ?_)
                rotate_left 1
                focus
                  refine gd_no (k := ?_)
                  refine gd_no (k := ?_)
                  refine gd_no (k := ?_)
                  refine gd_no (k := ?_)
                  refine gd_no (k := ?_)
                  refine rd_pick_f (k := ?_)
                  refine r_assign (k := ?_)
                  refine sl_nil ?_
                rotate_left 1
              rotate_left 2
              focus
                refine gd_no (k := ?_)
                refine gd_no (k := ?_)
                refine gd_no (k := ?_)
                refine gd_no (k := ?_)
                refine gd_no (k := ?_)
                refine rd_pick_f (k := ?_)
                refine r_move (k := ?_)
                refine gd_no (k := ?_)
                refine gd_no (k := ?_)
                refine gd_no (k := ?_)
                refine gd_no (k := ?_)
                refine gd_no (k := ?_)
                refine rd_pick_f (k := ?_)
                refine r_assign (k := ?_)
                refine sl_nil ?_
              rotate_left 1
            rotate_left 3
            focus
              refine gd_no (k := ?_)
              refine gd_no (k := ?_)
              refine gd_no (k := ?_)
              refine rd_pick_f (k := ?_)
              refine r_move (k := ?_)
              refine gd_no (k := ?_)
              refine gd_no (k := ?_)
              refine gd_no (k := ?_)
              refine gd_no (k := ?_)
              refine gd_no (k := ?_)
              refine rd_pick_f (k := ?_)
              refine r_move (k := ?_)
              refine gd_no (k := ?_)
              refine gd_no (k := ?_)
              refine gd_no (k := ?_)
              refine gd_no (k := ?_)
              refine gd_no (k := ?_)
              refine rd_pick_f (k := ?_)
              refine r_assign (k := ?_)
              refine sl_nil ?_
            rotate_left 1
          rotate_left 4
          focus
            refine gd_no (k := ?_)
            refine gd_no (k := ?_)
            refine gd_no (k := ?_)
            refine rd_pick_f (k := ?_)
            refine r_move (k := ?_)
            refine gd_no (k := ?_)
            refine gd_no (k := ?_)
            refine gd_no (k := ?_)
            refine rd_pick_f (k := ?_)
            refine r_move (k := ?_)
            refine gd_no (k := ?_)
            refine gd_no (k := ?_)
            refine gd_no (k := ?_)
            refine gd_no (k := ?_)
            refine gd_no (k := ?_)
            refine rd_pick_f (k := ?_)
            refine r_move (k := ?_)
            refine gd_no (k := ?_)
            refine gd_no (k := ?_)
            refine gd_no (k := ?_)
            refine gd_no (k := ?_)
            refine gd_no (k := ?_)
            refine rd_pick_f (k := ?_)
            refine r_assign (k := ?_)
            refine sl_nil ?_
          rotate_left 1
        rotate_left 5
        focus
          refine gd_no (k := ?_)
          refine gd_no (k := ?_)
          refine gd_no (k := ?_)
          refine rd_pick_f (k := ?_)
          refine r_move (k := ?_)
          refine gd_no (k := ?_)
          refine gd_no (k := ?_)
          refine gd_no (k := ?_)
          refine rd_pick_f (k := ?_)
          refine r_move (k := ?_)
          refine gd_no (k := ?_)
          refine gd_no (k := ?_)
          refine gd_no (k := ?_)
          refine rd_pick_f (k := ?_)
          refine r_move (k := ?_)
          refine gd_no (k := ?_)
          refine gd_no (k := ?_)
          refine gd_no (k := ?_)
          refine gd_no (k := ?_)
          refine gd_no (k := ?_)
          refine rd_pick_f (k := ?_)
          refine r_move (k := ?_)
          refine gd_no (k := ?_)
          refine gd_no (k := ?_)
          refine gd_no (k := ?_)
          refine gd_no (k := ?_)
          refine gd_no (k := ?_)
          refine rd_pick_f (k := ?_)
          refine r_assign (k := ?_)
          refine sl_nil ?_
        rotate_left 1
      rotate_left 6
      focus
        refine gd_no (k := ?_)
        refine gd_no (k := ?_)
        refine gd_no (k := ?_)
        refine rd_pick_f (k := ?_)
        refine r_move (k := ?_)
        refine gd_no (k := ?_)
        refine gd_no (k := ?_)
        refine gd_no (k := ?_)
        refine rd_pick_f (k := ?_)
        refine r_move (k := ?_)
        refine gd_no (k := ?_)
        refine gd_no (k := ?_)
        refine gd_no (k := ?_)
        refine rd_pick_f (k := ?_)
        refine r_move (k := ?_)
        refine gd_no (k := ?_)
        refine gd_no (k := ?_)
        refine gd_no (k := ?_)
        refine rd_pick_f (k := ?_)
        refine r_move (k := ?_)
        refine gd_no (k := ?_)
        refine gd_no (k := ?_)
        refine gd_no (k := ?_)
        refine gd_no (k := ?_)
        refine gd_no (k := ?_)
        refine rd_pick_f (k := ?_)
        refine r_move (k := ?_)
        refine gd_no (k := ?_)
        refine gd_no (k := ?_)
        refine gd_no (k := ?_)
        refine gd_no (k := ?_)
        refine gd_no (k := ?_)
        refine rd_pick_f (k := ?_)
        refine r_assign (k := ?_)
        refine sl_nil ?_
      rotate_left 1
    rotate_left 7
    focus
      refine gd_no (k := ?_)
      refine gd_no (k := ?_)
      refine gd_no (k := ?_)
      refine rd_pick_f (k := ?_)
      refine r_move (k := ?_)
      refine gd_no (k := ?_)
      refine gd_no (k := ?_)
      refine gd_no (k := ?_)
      refine rd_pick_f (k := ?_)
      refine r_move (k := ?_)
      refine gd_no (k := ?_)
      refine gd_no (k := ?_)
      refine gd_no (k := ?_)
      refine rd_pick_f (k := ?_)
      refine r_move (k := ?_)
      refine gd_no (k := ?_)
      refine gd_no (k := ?_)
      refine gd_no (k := ?_)
      refine rd_pick_f (k := ?_)
      refine r_move (k := ?_)
      refine gd_no (k := ?_)
      refine gd_no (k := ?_)
      refine gd_no (k := ?_)
      refine rd_pick_f (k := ?_)
      refine r_move (k := ?_)
      refine gd_no (k := ?_)
      refine gd_no (k := ?_)
      refine gd_no (k := ?_)
      refine gd_no (k := ?_)
      refine gd_no (k := ?_)
      refine rd_pick_f (k := ?_)
      refine r_move (k := ?_)
      refine gd_no (k := ?_)
      refine gd_no (k := ?_)
      refine gd_no (k := ?_)
      refine gd_no (k := ?_)
      refine gd_no (k := ?_)
      refine rd_pick_f (k := ?_)
      refine r_assign (k := ?_)
      refine sl_nil ?_
    rotate_left 1
    any_goals refine r_call1 (c_marked G a.mark a.tx) (by exact rfl) (by exact rfl) (by exact rfl) (by simp) (by exact rfl) ?_
    focus
      refine rd_pick_t (k := ?_)
      refine r_assign (k := ?_)
      refine sl_nil ?_
    rotate_left 1
    rotate_left 1
    rotate_left 1
    rotate_left 1
    rotate_left 1
    rotate_left 1
    rotate_left 1
    rotate_left 1
    all_goals refine sp_re (t := 3) (v' := vb a.fine) rfl ?_ (sp_cut (by repeat' (first | trivial | exact rfl | apply And.intro)) (by repeat' (first | trivial | exact .head _ | exact .tail _ (.head _) | exact .tail _ (.tail _ (.head _)) | exact .tail _ (.tail _ (.tail _ (.head _))) | exact .tail _ (.tail _ (.tail _ (.tail _ (.head _)))) | exact .tail _ (.tail _ (.tail _ (.tail _ (.tail _ (.head _))))) | exact .tail _ (.tail _ (.tail _ (.tail _ (.tail _ (.tail _ (.head _)))))) | exact .tail _ (.tail _ (.tail _ (.tail _ (.tail _ (.tail _ (.tail _ (.head _))))))) | exact .tail _ (.tail _ (.tail _ (.tail _ (.tail _ (.tail _ (.tail _ (.tail _ (.head _)))))))) | exact .tail _ (.tail _ (.tail _ (.tail _ (.tail _ (.tail _ (.tail _ (.tail _ (.tail _ (.head _))))))))) | exact .tail _ (.tail _ (.tail _ (.tail _ (.tail _ (.tail _ (.tail _ (.tail _ (.tail _ (.tail _ (.head _)))))))))) | exact .tail _ (.tail _ (.tail _ (.tail _ (.tail _ (.tail _ (.tail _ (.tail _ (.tail _ (.tail _ (.tail _ (.head _))))))))))) | apply And.intro)))
    all_goals (simp_all [AncV.fine] <;> (intros; omega))
  · refine sw_seq ?_
    refine sw_seq ?_
    refine sw_region ?_
    refine r_fieldAddr (k := ?_)
    refine r_load_agg (k := ?_)
    refine r_call1 (c_none G a.root) (by exact rfl) (by exact rfl) (by exact rfl) (by simp) (by exact rfl) ?_
    refine sl_nil ?_
    refine sp_then ?_
    refine sw_cond rfl (fun h => ?_) (fun h => ?_)
    · have h := of_decide_eq_true h
      refine sw_seq ?_
      refine sw_region ?_
      refine r_move (k := ?_)
      refine r_move (k := ?_)
      refine g_part (h1 := fun hg => ?_) (h2 := fun hg => ?_)
      focus
        refine gd_yes (k := ?_)
        refine r_fieldAddr (k := ?_)
        refine gd_yes (k := ?_)
        refine r_load_one (k := ?_)
        refine gd_yes (k := ?_)
        refine r_eql (k := ?_)
        refine rd_pick_t (k := ?_)
        refine r_assign (k := ?_)
        refine sl_nil ?_
        refine sp_then ?_
        refine sw_ret ?_
        refine sp_then_ret ?_
      rotate_left 1
      focus
        refine gd_no (k := ?_)
        refine gd_no (k := ?_)
        refine gd_no (k := ?_)
        refine rd_pick_f (k := ?_)
        refine r_assign (k := ?_)
        refine sl_nil ?_
        refine sp_then ?_
        refine sw_ret ?_
        refine sp_then_ret ?_
      rotate_left 1
      all_goals refine sp_retv rfl rfl (.tmp rfl) rfl rfl ⟨?_, rfl, rfl⟩ (by simp) rfl (by simp)
      all_goals simp_all [AncV.right]
    · have h := of_decide_eq_false h
      refine sw_skip ?_
      refine sp_then ?_
      refine sw_seq ?_
      refine sw_region ?_
      refine r_move (k := ?_)
      refine r_move (k := ?_)
      refine g_part (h1 := fun hg => ?_) (h2 := fun hg => ?_)
      focus
        refine gd_yes (k := ?_)
        refine r_fieldAddr (k := ?_)
        refine gd_yes (k := ?_)
        refine r_load_one (k := ?_)
        refine gd_yes (k := ?_)
        refine r_geq (k := ?_)
        refine rd_pick_t (k := ?_)
        refine r_move (k := ?_)
        refine g_part (h1 := fun hg => ?_) (h2 := fun hg => ?_)
        focus
          refine gd_yes (k := ?_)
          refine r_fieldAddr (k := ?_)
          refine gd_yes (k := ?_)
          refine r_load_agg (k := ?_)
          refine gd_yes (k := ?_)
        rotate_left 1
        focus
          refine gd_no (k := ?_)
          refine gd_no (k := ?_)
          refine gd_no (k := ?_)
          refine rd_pick_f (k := ?_)
          refine r_move (k := ?_)
          refine gd_no (k := ?_)
          refine gd_no (k := ?_)
          refine gd_no (k := ?_)
          refine gd_no (k := ?_)
          refine gd_no (k := ?_)
          refine gd_no (k := ?_)
          refine rd_pick_f (k := ?_)
          refine r_move (k := ?_)
          refine gd_no (k := ?_)
          refine gd_no (k := ?_)
          refine gd_no (k := ?_)
          refine gd_no (k := ?_)
          refine gd_no (k := ?_)
          refine gd_no (k := ?_)
          refine rd_pick_f (k := ?_)
          refine r_assign (k := ?_)
          refine sl_nil ?_
          refine sp_then ?_
          refine sw_ret ?_
        rotate_left 1
      rotate_left 2
      focus
        refine gd_no (k := ?_)
        refine gd_no (k := ?_)
        refine gd_no (k := ?_)
        refine rd_pick_f (k := ?_)
        refine r_move (k := ?_)
        refine gd_no (k := ?_)
        refine gd_no (k := ?_)
        refine gd_no (k := ?_)
        refine rd_pick_f (k := ?_)
        refine r_move (k := ?_)
        refine gd_no (k := ?_)
        refine gd_no (k := ?_)
        refine gd_no (k := ?_)
        refine gd_no (k := ?_)
        refine gd_no (k := ?_)
        refine gd_no (k := ?_)
        refine rd_pick_f (k := ?_)
        refine r_move (k := ?_)
        refine gd_no (k := ?_)
        refine gd_no (k := ?_)
        refine gd_no (k := ?_)
        refine gd_no (k := ?_)
        refine gd_no (k := ?_)
        refine gd_no (k := ?_)
        refine rd_pick_f (k := ?_)
        refine r_assign (k := ?_)
        refine sl_nil ?_
        refine sp_then ?_
        refine sw_ret ?_
      rotate_left 1
      any_goals refine r_call1 (c_meta G a.root) (by exact rfl) (by exact rfl) (by exact rfl) (by simp) (by exact rfl) ?_
      focus
        refine rd_pick_t (k := ?_)
        refine r_move (k := ?_)
        refine g_part (h1 := fun hg => ?_) (h2 := fun hg => ?_)
        focus
          refine gd_yes (k := ?_)
          refine r_fieldAddr (k := ?_)
          refine gd_yes (k := ?_)
          refine r_load_agg (k := ?_)
          refine gd_yes (k := ?_)
          refine r_fieldAddr (k := ?_)
          refine gd_yes (k := ?_)
          refine r_load_one (k := ?_)
          refine gd_yes (k := ?_)
          refine r_cv_16_i (k := ?_)
          refine gd_yes (k := ?_)
        rotate_left 1
        focus
          refine gd_no (k := ?_)
          refine gd_no (k := ?_)
          refine gd_no (k := ?_)
          refine gd_no (k := ?_)
          refine gd_no (k := ?_)
          refine gd_no (k := ?_)
          refine rd_pick_f (k := ?_)
          refine r_move (k := ?_)
          refine gd_no (k := ?_)
          refine gd_no (k := ?_)
          refine gd_no (k := ?_)
          refine gd_no (k := ?_)
          refine gd_no (k := ?_)
          refine gd_no (k := ?_)
          refine rd_pick_f (k := ?_)
          refine r_assign (k := ?_)
          refine sl_nil ?_
          refine sp_then ?_
          refine sw_ret ?_
        rotate_left 1
      rotate_left 2
      rotate_left 1
      rotate_left 1
      any_goals refine r_call1 (c_pright G a.root (a.size.toNat : Int)) (by exact rfl) (by exact rfl) (by exact rfl) (by simp) (by exact rfl) ?_
      focus
        refine rd_pick_t (k := ?_)
        refine r_move (k := ?_)
        refine g_part (h1 := fun hg => ?_) (h2 := fun hg => ?_)
        focus
          refine gd_yes (k := ?_)
          refine r_fieldAddr (k := ?_)
          refine gd_yes (k := ?_)
          refine r_fieldAddr (k := ?_)
          refine gd_yes (k := ?_)
          refine r_load_one (k := ?_)
          refine gd_yes (k := ?_)
          refine r_fieldAddr (k := ?_)
          refine gd_yes (k := ?_)
          refine r_load_one (k := ?_)
          refine gd_yes (k := ?_)
          refine r_leq (k := ?_)
          refine rd_pick_t (k := ?_)
          refine r_assign (k := ?_)
          refine sl_nil ?_
          refine sp_then ?_
          refine sw_ret ?_
        rotate_left 1
        focus
          refine gd_no (k := ?_)
          refine gd_no (k := ?_)
          refine gd_no (k := ?_)
          refine gd_no (k := ?_)
          refine gd_no (k := ?_)
          refine gd_no (k := ?_)
          refine rd_pick_f (k := ?_)
          refine r_assign (k := ?_)
          refine sl_nil ?_
          refine sp_then ?_
          refine sw_ret ?_
        rotate_left 1
      rotate_left 2
      rotate_left 1
      rotate_left 1
      rotate_left 1
      all_goals refine sp_retv rfl rfl (.tmp rfl) rfl rfl ⟨?_, rfl, rfl⟩ (by simp) rfl (by simp)
      all_goals (simp_all [AncV.right] <;> (intros; omega))
end Go.Proofs.YtjahiohlekdhoaaDoor
