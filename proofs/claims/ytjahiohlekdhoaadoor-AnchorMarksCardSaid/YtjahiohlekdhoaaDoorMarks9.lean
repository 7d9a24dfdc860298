/-
  The walk of suturelaw09.AnchorMarks: it tells true.
-/
import Derived.Test.YtjahiohlekdhoaaDoorJust9
namespace Go.Proofs.YtjahiohlekdhoaaDoor
open Go
set_option maxHeartbeats 4000000
set_option maxRecDepth 4000
attribute [local irreducible] SW SL SP RA Then FQ IQ LoopQ RQ AQ NX CutQ Exit.noGoto

def zeroM : MkV := ⟨0, 0, 0, BS.nil⟩
def AncV.with (a : AncV) (m : MkV) : AncV := { a with mark := m }
theorem marked_next (m : MkV) (tx : UInt32) (h : tx.toNat < 1073741824) (hm : markedV m tx = true) : markedV m (tx + UInt32.ofNat 1) = true := by
  have e : (tx + UInt32.ofNat 1).toNat = tx.toNat + 1 := by
    rw [UInt32.toNat_add, show (UInt32.ofNat 1).toNat = 1 from rfl]; omega
  unfold markedV at hm ⊢
  rw [e]
  split at hm
  · cases hm
  · rename_i h1
    rw [if_neg h1]
    split at hm
    · rename_i h2
      rw [if_pos h2]
      simp only [Bool.and_eq_true, decide_eq_true_eq] at hm ⊢
      omega
    · rename_i h2
      rw [if_neg h2]
      exact hm
theorem zero_marked (tx : UInt32) : markedV zeroM tx = true := by
  unfold markedV zeroM BS.nil
  simp
theorem same_with (a : AncV) (m : MkV) : sameV a (a.with m) = alikeV a.mark m := by simp [sameV, AncV.with]
theorem right_with (a : AncV) (m : MkV) : (a.with m).right = ((a.with zeroM).right && markedV m a.tx) := by
  unfold AncV.right AncV.fine AncV.with
  dsimp only
  rw [zero_marked]
  simp only [Bool.and_true]
  split
  · cases decide ((1 : Int) ≤ a.tx.toNat) <;> cases decide ((a.tx.toNat : Int) ≤ 1073741824) <;> cases decide ((32 : Int) ≤ a.size.toNat) <;> cases decide ((a.size.toNat : Int) ≤ 256) <;> cases decide ((1 : Int) ≤ a.live.toNat) <;> cases decide ((a.live.toNat : Int) ≤ 3) <;> cases decide ((a.both.toNat : Int) ≤ a.tx.toNat) <;> simp [Bool.and_comm]
  · cases decide ((1 : Int) ≤ a.tx.toNat) <;> cases decide ((a.tx.toNat : Int) ≤ 1073741824) <;> cases decide ((32 : Int) ≤ a.size.toNat) <;> cases decide ((a.size.toNat : Int) ≤ 256) <;> cases decide ((1 : Int) ≤ a.live.toNat) <;> cases decide ((a.live.toNat : Int) ≤ 3) <;> cases decide ((a.both.toNat : Int) ≤ a.tx.toNat) <;> cases markedV m a.tx <;> simp

theorem c_lawMarks (a : AncV) (m : MkV) (hok : a.mark.key.ok) (hmk : m.key.ok) : Ctr Tryd.prog GW 7 [a.v, m.v] [] [a.mark.key.res, m.key.res] (ret1 (vb true)) := by
  refine Ctr.intro Tryd.func7 (by kernel_rfl) rfl Tryd.ntmps7 rfl rfl rfl fun w X => ?_
  refine sw_seq ?_
  refine sw_region ?_
  refine r_box (cs := a.cs) (by exact rfl) rfl (by exact rfl) fun b2 => ?_
  refine r_box (cs := m.cs) (by exact rfl) rfl (by exact rfl) fun b3 => ?_
  refine r_assign (k := ?_)
  refine sl_nil ?_
  refine sp_then ?_
  refine sw_seq ?_
  refine sw_seq ?_
  refine sw_region ?_
  refine r_load_all (k := ?_)
  refine r_lit (vs := [a.v]) (xs := [.tmp 10]) (cells := ancsV [a]) (by exact tl rfl) (by exact z32) (by exact rfl) (by exact rfl) (by intro v hv; simp at hv; subst hv; rfl) (by decide) (by decide) (by exact rfl) (by simp [ancsV, AncV.v, Value.cells]) (by exact rfl) fun q => ?_
  refine o_row fun ba cap e _ _ _ => ?_
  cases e
  skip
  refine r_call1 (c_great GW (some ⟨q, 0, none⟩) 1 [a] (by simp [maxLen])) (by exact rfl) (by exact rfl) (by exact rfl) (by simp) (by exact rfl) ?_
  refine f_set [a.mark.key.res, m.key.res] (fun V w hw φ hφ => hw φ (by simp at hφ ⊢; rcases hφ with rfl | rfl <;> simp)) ?_
  refine r_move (k := ?_)
  refine g_part (h1 := fun hg => ?_) (h2 := fun hg => ?_)
  focus
    refine gd_no (k := ?_)
    refine gd_no (k := ?_)
    refine gd_no (k := ?_)
    refine gd_no (k := ?_)
    refine rd_pick_t (k := ?_)
    refine r_move (k := ?_)
    refine gd_no (k := ?_)
    refine gd_no (k := ?_)
    refine gd_no (k := ?_)
    refine rd_pick_t (k := ?_)
    refine sl_nil ?_
  rotate_left 1
  focus
    refine gd_yes (k := ?_)
    refine r_fieldAddr (k := ?_)
    refine gd_yes (k := ?_)
    refine r_load_one (k := ?_)
    refine gd_yes (k := ?_)
    refine r_len (k := ?_)
    refine gd_yes (k := ?_)
    refine r_gtr (k := ?_)
    refine rd_pick_f (k := ?_)
    refine r_move (k := ?_)
    refine g_part (h1 := fun hg => ?_) (h2 := fun hg => ?_)
    focus
      refine gd_no (k := ?_)
      refine gd_no (k := ?_)
      refine gd_no (k := ?_)
      refine rd_pick_t (k := ?_)
      refine sl_nil ?_
    rotate_left 1
    focus
      refine gd_yes (k := ?_)
      refine r_fieldAddr (k := ?_)
      refine gd_yes (k := ?_)
      refine r_load_one (k := ?_)
      refine gd_yes (k := ?_)
      refine r_geq (k := ?_)
      refine rd_pick_f (k := ?_)
      refine sl_nil ?_
    rotate_left 1
  rotate_left 2
  all_goals refine sp_then ?_
  · refine swd_t (h := ?_)
    refine sw_seq ?_
    refine sw_region ?_
    refine r_call1 c_wakes (by exact rfl) (by exact rfl) (by exact rfl) (by simp) (by exact rfl) ?_
    refine r_assign (k := ?_)
    refine sl_nil ?_
    refine sp_then ?_
    refine sw_ret ?_
    refine sp_then_ret ?_
    refine sp_retv rfl rfl (.tmp rfl) rfl rfl ⟨rfl, rfl, rfl⟩ (by simp) rfl (by simp)
  · refine swd_t (h := ?_)
    refine sw_seq ?_
    refine sw_region ?_
    refine r_call1 c_wakes (by exact rfl) (by exact rfl) (by exact rfl) (by simp) (by exact rfl) ?_
    refine r_assign (k := ?_)
    refine sl_nil ?_
    refine sp_then ?_
    refine sw_ret ?_
    refine sp_then_ret ?_
    refine sp_retv rfl rfl (.tmp rfl) rfl rfl ⟨rfl, rfl, rfl⟩ (by simp) rfl (by simp)
  refine sw_cond (h1 := fun hg => ?_) (h2 := fun hg => ?_)
  · refine sw_seq ?_
    refine sw_region ?_
    refine r_call1 c_wakes (by exact rfl) (by exact rfl) (by exact rfl) (by simp) (by exact rfl) ?_
    refine r_assign (k := ?_)
    refine sl_nil ?_
    refine sp_then ?_
    refine sw_ret ?_
    refine sp_then_ret ?_
    refine sp_retv rfl rfl (.tmp rfl) rfl rfl ⟨rfl, rfl, rfl⟩ (by simp) rfl (by simp)
  have htx : a.tx.toNat < 1073741824 := by
    have h := of_decide_eq_false hg
    omega
  refine sw_skip ?_
  refine sp_then ?_
  refine sw_cut [(2, .pointer (some ⟨b2, 0, none⟩)), (3, .pointer (some ⟨b3, 0, none⟩))] [.box b3 m.cs 30, .box b2 a.cs 32] [a.mark.key.res, m.key.res] [] ?_ ?_
  · refine sw_seq ?_
    refine sw_region ?_
    refine r_load_all (k := ?_)
    refine r_fieldAddr (k := ?_)
    refine r_load_one (k := ?_)
    refine r_call1 (c_marked GW m a.tx) (by exact rfl) (by exact rfl) (by exact rfl) (by simp) (by exact rfl) ?_
    cases hmk' : markedV m a.tx with
    | false =>
      refine r_move (k := ?_)
      refine gd_no (k := ?_)
      refine gd_no (k := ?_)
      refine gd_no (k := ?_)
      refine gd_no (k := ?_)
      refine gd_no (k := ?_)
      refine gd_no (k := ?_)
      refine rd_pick_f (k := ?_)
      refine sl_nil ?_
      refine sp_then ?_
      refine swd_f (h := ?_)
      refine sw_skip ?_
      exact sp_cut (by repeat' (first | trivial | exact rfl | apply And.intro)) (by repeat' (first | trivial | exact .head _ | exact .tail _ (.head _) | exact .tail _ (.tail _ (.head _)) | exact .tail _ (.tail _ (.tail _ (.head _))) | exact .tail _ (.tail _ (.tail _ (.tail _ (.head _)))) | exact .tail _ (.tail _ (.tail _ (.tail _ (.tail _ (.head _))))) | exact .tail _ (.tail _ (.tail _ (.tail _ (.tail _ (.tail _ (.head _)))))) | exact .tail _ (.tail _ (.tail _ (.tail _ (.tail _ (.tail _ (.tail _ (.head _))))))) | exact .tail _ (.tail _ (.tail _ (.tail _ (.tail _ (.tail _ (.tail _ (.tail _ (.head _)))))))) | exact .tail _ (.tail _ (.tail _ (.tail _ (.tail _ (.tail _ (.tail _ (.tail _ (.tail _ (.head _))))))))) | exact .tail _ (.tail _ (.tail _ (.tail _ (.tail _ (.tail _ (.tail _ (.tail _ (.tail _ (.tail _ (.head _)))))))))) | exact .tail _ (.tail _ (.tail _ (.tail _ (.tail _ (.tail _ (.tail _ (.tail _ (.tail _ (.tail _ (.tail _ (.head _))))))))))) | apply And.intro))
    | true =>
      have hc := c_marked GW m (a.tx + UInt32.ofNat 1)
      rw [marked_next m a.tx htx hmk'] at hc
      refine r_move (k := ?_)
      refine gd_yes (k := ?_)
      refine r_load_all (k := ?_)
      refine gd_yes (k := ?_)
      refine r_fieldAddr (k := ?_)
      refine gd_yes (k := ?_)
      refine r_load_one (k := ?_)
      refine gd_yes (k := ?_)
      refine r_add32c (k := ?_)
      refine gd_yes (k := ?_)
      refine r_call1 hc (by exact rfl) (by exact rfl) (by exact rfl) (by simp) (by exact rfl) ?_
      refine gd_yes (k := ?_)
      refine r_not (k := ?_)
      refine rd_pick_t (k := ?_)
      refine sl_nil ?_
      refine sp_then ?_
      refine swd_f (h := ?_)
      refine sw_skip ?_
      exact sp_cut (by repeat' (first | trivial | exact rfl | apply And.intro)) (by repeat' (first | trivial | exact .head _ | exact .tail _ (.head _) | exact .tail _ (.tail _ (.head _)) | exact .tail _ (.tail _ (.tail _ (.head _))) | exact .tail _ (.tail _ (.tail _ (.tail _ (.head _)))) | exact .tail _ (.tail _ (.tail _ (.tail _ (.tail _ (.head _))))) | exact .tail _ (.tail _ (.tail _ (.tail _ (.tail _ (.tail _ (.head _)))))) | exact .tail _ (.tail _ (.tail _ (.tail _ (.tail _ (.tail _ (.tail _ (.head _))))))) | exact .tail _ (.tail _ (.tail _ (.tail _ (.tail _ (.tail _ (.tail _ (.tail _ (.head _)))))))) | exact .tail _ (.tail _ (.tail _ (.tail _ (.tail _ (.tail _ (.tail _ (.tail _ (.tail _ (.head _))))))))) | exact .tail _ (.tail _ (.tail _ (.tail _ (.tail _ (.tail _ (.tail _ (.tail _ (.tail _ (.tail _ (.head _)))))))))) | exact .tail _ (.tail _ (.tail _ (.tail _ (.tail _ (.tail _ (.tail _ (.tail _ (.tail _ (.tail _ (.tail _ (.head _))))))))))) | apply And.intro))
  refine sw_seq ?_
  refine sw_region ?_
  refine r_load_all (k := ?_)
  refine r_alloc (by exact z32) (cs := zeroA.cs) (by kernel_rfl) (by exact rfl) fun b5 => ?_
  refine r_store_all (cs := zeroA.cs) (vs := a.cs) (by exact tz rfl) (by exact rfl) (by exact rfl) (by first | exact .hd | exact .tl (.hd) | exact .tl (.tl (.hd)) | exact .tl (.tl (.tl (.hd))) | exact .tl (.tl (.tl (.tl (.hd)))) | exact .tl (.tl (.tl (.tl (.tl (.hd))))) | exact .tl (.tl (.tl (.tl (.tl (.tl (.hd)))))) | exact .tl (.tl (.tl (.tl (.tl (.tl (.tl (.hd))))))) | exact .tl (.tl (.tl (.tl (.tl (.tl (.tl (.tl (.hd)))))))) | exact .tl (.tl (.tl (.tl (.tl (.tl (.tl (.tl (.tl (.hd))))))))) | exact .tl (.tl (.tl (.tl (.tl (.tl (.tl (.tl (.tl (.tl (.hd)))))))))) | exact .tl (.tl (.tl (.tl (.tl (.tl (.tl (.tl (.tl (.tl (.tl (.hd)))))))))))) rfl rfl rfl rfl ?_
  refine sl_nil ?_
  refine sp_then ?_
  refine sw_seq ?_
  refine sw_region ?_
  refine r_load_all (k := ?_)
  refine r_fieldAddr (k := ?_)
  refine r_store (vs := m.cs) (cs' := (a.with m).cs) (by exact tz rfl) (by exact rfl) (by exact rfl) (by first | exact .hd | exact .tl (.hd) | exact .tl (.tl (.hd)) | exact .tl (.tl (.tl (.hd))) | exact .tl (.tl (.tl (.tl (.hd)))) | exact .tl (.tl (.tl (.tl (.tl (.hd))))) | exact .tl (.tl (.tl (.tl (.tl (.tl (.hd)))))) | exact .tl (.tl (.tl (.tl (.tl (.tl (.tl (.hd))))))) | exact .tl (.tl (.tl (.tl (.tl (.tl (.tl (.tl (.hd)))))))) | exact .tl (.tl (.tl (.tl (.tl (.tl (.tl (.tl (.tl (.hd))))))))) | exact .tl (.tl (.tl (.tl (.tl (.tl (.tl (.tl (.tl (.tl (.hd)))))))))) | exact .tl (.tl (.tl (.tl (.tl (.tl (.tl (.tl (.tl (.tl (.tl (.hd)))))))))))) rfl rfl rfl (Nat.le_of_ble_eq_true rfl) rfl ?_
  have hsm := c_same GW a (a.with m)
  rw [same_with] at hsm
  refine sl_nil ?_
  refine sp_then ?_
  refine sw_seq ?_
  refine sw_seq ?_
  
  refine sw_draw [(none, .box b5 (a.with m).cs 32), (none, .box b3 m.cs 30), (none, .box b2 a.cs 32)] [a.mark.key.res, m.key.res] [0, 1, 2, 3, 4, 5, 6, 7] mix (by kernel_rfl) rfl ?_
  refine ra_first 0 [(none, .box b5 (a.with m).cs 32), (none, .box b3 m.cs 30), (none, .box b2 a.cs 32)] [1, 2, 3, 4, 5, 6, 7] (hq := by first | exact q_load_one | exact q_load_all | exact q_load_fr1 | exact q_load_fr) (k := ?_)
  refine ra_first 1 [(none, .box b5 (a.with m).cs 32), (none, .box b3 m.cs 30), (none, .box b2 a.cs 32)] [2, 3, 4, 5, 6, 7] (hq := by first | exact q_load_one | exact q_load_all | exact q_load_fr1 | exact q_load_fr) (k := ?_)
  refine ra_first 3 [] [2, 4, 5, 6, 7] (hq := by exact q_fieldAddr) (k := ?_)
  refine ra_first 4 [(none, .box b5 (a.with m).cs 32), (none, .box b3 m.cs 30), (none, .box b2 a.cs 32)] [2, 5, 6, 7] (hq := by exact q_load_agg (vs := a.mark.cs) (by exact tz rfl) (by exact rfl) (.tail _ (.tail _ (.head _))) rfl rfl) (k := ?_)
  refine ra_first 5 [(none, .box b5 (a.with m).cs 32), (none, .box b3 m.cs 30), (none, .box b2 a.cs 32)] [2, 6, 7] (hq := by first | exact q_load_one | exact q_load_all | exact q_load_fr1 | exact q_load_fr) (k := ?_)
  refine ra1 (i := 2) [6, 7] (h := ?_)
  refine r_call1 hsm (by exact rfl) (by exact rfl) (by exact rfl) (PhAll.all (by repeat' (first | trivial | exact .head _ | exact .tail _ (.head _) | exact .tail _ (.tail _ (.head _)) | exact .tail _ (.tail _ (.tail _ (.head _))) | exact .tail _ (.tail _ (.tail _ (.tail _ (.head _)))) | exact .tail _ (.tail _ (.tail _ (.tail _ (.tail _ (.head _))))) | exact .tail _ (.tail _ (.tail _ (.tail _ (.tail _ (.tail _ (.head _)))))) | exact .tail _ (.tail _ (.tail _ (.tail _ (.tail _ (.tail _ (.tail _ (.head _))))))) | exact .tail _ (.tail _ (.tail _ (.tail _ (.tail _ (.tail _ (.tail _ (.tail _ (.head _)))))))) | exact .tail _ (.tail _ (.tail _ (.tail _ (.tail _ (.tail _ (.tail _ (.tail _ (.tail _ (.head _))))))))) | exact .tail _ (.tail _ (.tail _ (.tail _ (.tail _ (.tail _ (.tail _ (.tail _ (.tail _ (.tail _ (.head _)))))))))) | exact .tail _ (.tail _ (.tail _ (.tail _ (.tail _ (.tail _ (.tail _ (.tail _ (.tail _ (.tail _ (.tail _ (.head _))))))))))) | apply And.intro))) (by exact rfl) ?_
  refine sl_nil ?_
  refine sp_nx (k := ?_)
  refine ra1 (i := 6) [7] (h := ?_)
  refine r_call1 (c_alike GW a.mark m) (by exact rfl) (by exact rfl) (by exact rfl) (PhAll.all (by repeat' (first | trivial | exact .head _ | exact .tail _ (.head _) | exact .tail _ (.tail _ (.head _)) | exact .tail _ (.tail _ (.tail _ (.head _))) | exact .tail _ (.tail _ (.tail _ (.tail _ (.head _)))) | exact .tail _ (.tail _ (.tail _ (.tail _ (.tail _ (.head _))))) | exact .tail _ (.tail _ (.tail _ (.tail _ (.tail _ (.tail _ (.head _)))))) | exact .tail _ (.tail _ (.tail _ (.tail _ (.tail _ (.tail _ (.tail _ (.head _))))))) | exact .tail _ (.tail _ (.tail _ (.tail _ (.tail _ (.tail _ (.tail _ (.tail _ (.head _)))))))) | exact .tail _ (.tail _ (.tail _ (.tail _ (.tail _ (.tail _ (.tail _ (.tail _ (.tail _ (.head _))))))))) | exact .tail _ (.tail _ (.tail _ (.tail _ (.tail _ (.tail _ (.tail _ (.tail _ (.tail _ (.tail _ (.head _)))))))))) | exact .tail _ (.tail _ (.tail _ (.tail _ (.tail _ (.tail _ (.tail _ (.tail _ (.tail _ (.tail _ (.tail _ (.head _))))))))))) | apply And.intro))) (by exact rfl) ?_
  refine sl_nil ?_
  refine sp_nx (k := ?_)
  refine ra1 (i := 7) [] (h := ?_)
  refine r_neqb' (k := ?_)
  refine sl_nil ?_
  refine sp_re (t := 47) (v' := vb false) rfl (by cases alikeV a.mark m <;> rfl) ?_
  refine sp_nx (k := ?_)
  refine ra_done ?_
  refine sp_then ?_
  refine swd_f (h := ?_)
  refine sw_skip ?_
  refine sp_then ?_
  refine sw_seq ?_
  refine sw_region ?_
  refine r_buildP zeroM.cs (parts := []) (by exact rfl) (by kernel_rfl) (by exact rfl) ?_
  refine r_fieldAddr (k := ?_)
  refine r_store (vs := zeroM.cs) (cs' := (a.with zeroM).cs) (by exact tz rfl) (by exact rfl) (by exact rfl) (by first | exact .hd | exact .tl (.hd) | exact .tl (.tl (.hd)) | exact .tl (.tl (.tl (.hd))) | exact .tl (.tl (.tl (.tl (.hd)))) | exact .tl (.tl (.tl (.tl (.tl (.hd))))) | exact .tl (.tl (.tl (.tl (.tl (.tl (.hd)))))) | exact .tl (.tl (.tl (.tl (.tl (.tl (.tl (.hd))))))) | exact .tl (.tl (.tl (.tl (.tl (.tl (.tl (.tl (.hd)))))))) | exact .tl (.tl (.tl (.tl (.tl (.tl (.tl (.tl (.tl (.hd))))))))) | exact .tl (.tl (.tl (.tl (.tl (.tl (.tl (.tl (.tl (.tl (.hd)))))))))) | exact .tl (.tl (.tl (.tl (.tl (.tl (.tl (.tl (.tl (.tl (.tl (.hd)))))))))))) rfl rfl rfl (Nat.le_of_ble_eq_true rfl) rfl ?_
  refine f_have (φ := BS.nil.res) (fun V w hw => nil_res) ?_
  refine sl_nil ?_
  refine sp_then ?_
  have hrw := right_with a m
  refine sw_cut [(5, .pointer (some ⟨b5, 0, none⟩)), (3, .pointer (some ⟨b3, 0, none⟩))] [.box b5 (a.with m).cs 32, .box b3 m.cs 30, .box b2 (a.with zeroM).cs 32] [BS.nil.res, a.mark.key.res, m.key.res] [] ?_ ?_
  · refine sw_seq ?_
    
    refine sw_draw [(none, .box b5 (a.with m).cs 32), (none, .box b3 m.cs 30), (none, .box b2 (a.with zeroM).cs 32)] [BS.nil.res, a.mark.key.res, m.key.res] [0, 1, 2, 3, 4, 5, 6, 7, 8, 9, 10] mix (by kernel_rfl) rfl ?_
    refine ra_first 0 [(none, .box b5 (a.with m).cs 32), (none, .box b3 m.cs 30), (none, .box b2 (a.with zeroM).cs 32)] [1, 2, 3, 4, 5, 6, 7, 8, 9, 10] (hq := by first | exact q_load_one | exact q_load_all | exact q_load_fr1 | exact q_load_fr) (k := ?_)
    refine ra_first 2 [(none, .box b5 (a.with m).cs 32), (none, .box b3 m.cs 30), (none, .box b2 (a.with zeroM).cs 32)] [1, 3, 4, 5, 6, 7, 8, 9, 10] (hq := by first | exact q_load_one | exact q_load_all | exact q_load_fr1 | exact q_load_fr) (k := ?_)
    refine ra1 (i := 1) [3, 4, 5, 6, 7, 8, 9, 10] (h := ?_)
    refine r_call1 (c_right GW (a.with m)) (by exact rfl) (by exact rfl) (by exact rfl) (PhAll.all (by repeat' (first | trivial | exact .head _ | exact .tail _ (.head _) | exact .tail _ (.tail _ (.head _)) | exact .tail _ (.tail _ (.tail _ (.head _))) | exact .tail _ (.tail _ (.tail _ (.tail _ (.head _)))) | exact .tail _ (.tail _ (.tail _ (.tail _ (.tail _ (.head _))))) | exact .tail _ (.tail _ (.tail _ (.tail _ (.tail _ (.tail _ (.head _)))))) | exact .tail _ (.tail _ (.tail _ (.tail _ (.tail _ (.tail _ (.tail _ (.head _))))))) | exact .tail _ (.tail _ (.tail _ (.tail _ (.tail _ (.tail _ (.tail _ (.tail _ (.head _)))))))) | exact .tail _ (.tail _ (.tail _ (.tail _ (.tail _ (.tail _ (.tail _ (.tail _ (.tail _ (.head _))))))))) | exact .tail _ (.tail _ (.tail _ (.tail _ (.tail _ (.tail _ (.tail _ (.tail _ (.tail _ (.tail _ (.head _)))))))))) | exact .tail _ (.tail _ (.tail _ (.tail _ (.tail _ (.tail _ (.tail _ (.tail _ (.tail _ (.tail _ (.tail _ (.head _))))))))))) | apply And.intro))) (by exact rfl) ?_
    refine sl_nil ?_
    refine sp_nx (k := ?_)
    refine ra1 (i := 3) [4, 5, 6, 7, 8, 9, 10] (h := ?_)
    refine r_call1 (c_right GW (a.with zeroM)) (by exact rfl) (by exact rfl) (by exact rfl) (PhAll.all (by repeat' (first | trivial | exact .head _ | exact .tail _ (.head _) | exact .tail _ (.tail _ (.head _)) | exact .tail _ (.tail _ (.tail _ (.head _))) | exact .tail _ (.tail _ (.tail _ (.tail _ (.head _)))) | exact .tail _ (.tail _ (.tail _ (.tail _ (.tail _ (.head _))))) | exact .tail _ (.tail _ (.tail _ (.tail _ (.tail _ (.tail _ (.head _)))))) | exact .tail _ (.tail _ (.tail _ (.tail _ (.tail _ (.tail _ (.tail _ (.head _))))))) | exact .tail _ (.tail _ (.tail _ (.tail _ (.tail _ (.tail _ (.tail _ (.tail _ (.head _)))))))) | exact .tail _ (.tail _ (.tail _ (.tail _ (.tail _ (.tail _ (.tail _ (.tail _ (.tail _ (.head _))))))))) | exact .tail _ (.tail _ (.tail _ (.tail _ (.tail _ (.tail _ (.tail _ (.tail _ (.tail _ (.tail _ (.head _)))))))))) | exact .tail _ (.tail _ (.tail _ (.tail _ (.tail _ (.tail _ (.tail _ (.tail _ (.tail _ (.tail _ (.tail _ (.head _))))))))))) | apply And.intro))) (by exact rfl) ?_
    refine sl_nil ?_
    refine sp_nx (k := ?_)
    refine ra_first 4 [] [5, 6, 7, 8, 9, 10] (hq := by exact q_move) (k := ?_)
    
    refine ra_part (t := 54) rfl (fun h0 => ?_) (fun h0 => ?_)
    · 
      refine ra_firstg 5 [(none, .box b5 (a.with m).cs 32), (none, .box b3 m.cs 30), (none, .box b2 (a.with zeroM).cs 32)] [6, 7, 8, 9, 10] (hq := by first | exact q_load_one | exact q_load_all | exact q_load_fr1 | exact q_load_fr) (k := ?_)
      refine ra_firstg 6 [] [7, 8, 9, 10] (hq := by exact q_fieldAddr) (k := ?_)
      refine ra_firstg 7 [(none, .box b5 (a.with m).cs 32), (none, .box b3 m.cs 30), (none, .box b2 (a.with zeroM).cs 32)] [8, 9, 10] (hq := by first | exact q_load_one | exact q_load_all | exact q_load_fr1 | exact q_load_fr) (k := ?_)
      refine ra1 (i := 8) [9, 10] (h := ?_)
      refine gd_yes (k := ?_)
      refine r_call1 (c_marked GW m a.tx) (by exact rfl) (by exact rfl) (by exact rfl) (PhAll.all (by repeat' (first | trivial | exact .head _ | exact .tail _ (.head _) | exact .tail _ (.tail _ (.head _)) | exact .tail _ (.tail _ (.tail _ (.head _))) | exact .tail _ (.tail _ (.tail _ (.tail _ (.head _)))) | exact .tail _ (.tail _ (.tail _ (.tail _ (.tail _ (.head _))))) | exact .tail _ (.tail _ (.tail _ (.tail _ (.tail _ (.tail _ (.head _)))))) | exact .tail _ (.tail _ (.tail _ (.tail _ (.tail _ (.tail _ (.tail _ (.head _))))))) | exact .tail _ (.tail _ (.tail _ (.tail _ (.tail _ (.tail _ (.tail _ (.tail _ (.head _)))))))) | exact .tail _ (.tail _ (.tail _ (.tail _ (.tail _ (.tail _ (.tail _ (.tail _ (.tail _ (.head _))))))))) | exact .tail _ (.tail _ (.tail _ (.tail _ (.tail _ (.tail _ (.tail _ (.tail _ (.tail _ (.tail _ (.head _)))))))))) | exact .tail _ (.tail _ (.tail _ (.tail _ (.tail _ (.tail _ (.tail _ (.tail _ (.tail _ (.tail _ (.tail _ (.head _))))))))))) | apply And.intro))) (by exact rfl) ?_
      refine sl_nil ?_
      refine sp_nx (k := ?_)
      refine ra_first 9 [] [10] (hq := by first | exact q_pick_t | exact q_pick_f) (k := ?_)
      refine ra1 (i := 10) [] (h := ?_)
      refine r_neqb' (k := ?_)
      refine sl_nil ?_
      refine sp_re (t := 60) (v' := vb false) rfl (by rw [hrw, h0]; cases markedV m a.tx <;> rfl) ?_
      refine sp_nx (k := ?_)
      refine ra_done ?_
      refine sp_then ?_
      refine swd_f (h := ?_)
      refine sw_skip ?_
      exact sp_cut (by repeat' (first | trivial | exact rfl | apply And.intro)) (by repeat' (first | trivial | exact .head _ | exact .tail _ (.head _) | exact .tail _ (.tail _ (.head _)) | exact .tail _ (.tail _ (.tail _ (.head _))) | exact .tail _ (.tail _ (.tail _ (.tail _ (.head _)))) | exact .tail _ (.tail _ (.tail _ (.tail _ (.tail _ (.head _))))) | exact .tail _ (.tail _ (.tail _ (.tail _ (.tail _ (.tail _ (.head _)))))) | exact .tail _ (.tail _ (.tail _ (.tail _ (.tail _ (.tail _ (.tail _ (.head _))))))) | exact .tail _ (.tail _ (.tail _ (.tail _ (.tail _ (.tail _ (.tail _ (.tail _ (.head _)))))))) | exact .tail _ (.tail _ (.tail _ (.tail _ (.tail _ (.tail _ (.tail _ (.tail _ (.tail _ (.head _))))))))) | exact .tail _ (.tail _ (.tail _ (.tail _ (.tail _ (.tail _ (.tail _ (.tail _ (.tail _ (.tail _ (.head _)))))))))) | exact .tail _ (.tail _ (.tail _ (.tail _ (.tail _ (.tail _ (.tail _ (.tail _ (.tail _ (.tail _ (.tail _ (.head _))))))))))) | apply And.intro))
    · 
      
      refine ra_skip 5 [6, 7, 8, 9, 10] (k := ?_)
      refine ra_skip 6 [7, 8, 9, 10] (k := ?_)
      refine ra_skip 7 [8, 9, 10] (k := ?_)
      refine ra_skip 8 [9, 10] (k := ?_)
      refine ra_first 9 [] [10] (hq := by first | exact q_pick_t | exact q_pick_f) (k := ?_)
      refine ra1 (i := 10) [] (h := ?_)
      refine r_neqb' (k := ?_)
      refine sl_nil ?_
      refine sp_re (t := 60) (v' := vb false) rfl (by rw [hrw, h0]; rfl) ?_
      refine sp_nx (k := ?_)
      refine ra_done ?_
      refine sp_then ?_
      refine swd_f (h := ?_)
      refine sw_skip ?_
      exact sp_cut (by repeat' (first | trivial | exact rfl | apply And.intro)) (by repeat' (first | trivial | exact .head _ | exact .tail _ (.head _) | exact .tail _ (.tail _ (.head _)) | exact .tail _ (.tail _ (.tail _ (.head _))) | exact .tail _ (.tail _ (.tail _ (.tail _ (.head _)))) | exact .tail _ (.tail _ (.tail _ (.tail _ (.tail _ (.head _))))) | exact .tail _ (.tail _ (.tail _ (.tail _ (.tail _ (.tail _ (.head _)))))) | exact .tail _ (.tail _ (.tail _ (.tail _ (.tail _ (.tail _ (.tail _ (.head _))))))) | exact .tail _ (.tail _ (.tail _ (.tail _ (.tail _ (.tail _ (.tail _ (.tail _ (.head _)))))))) | exact .tail _ (.tail _ (.tail _ (.tail _ (.tail _ (.tail _ (.tail _ (.tail _ (.tail _ (.head _))))))))) | exact .tail _ (.tail _ (.tail _ (.tail _ (.tail _ (.tail _ (.tail _ (.tail _ (.tail _ (.tail _ (.head _)))))))))) | exact .tail _ (.tail _ (.tail _ (.tail _ (.tail _ (.tail _ (.tail _ (.tail _ (.tail _ (.tail _ (.tail _ (.head _))))))))))) | apply And.intro))
  have hel : (encV (a.with m)).1.length = 256 := by
    unfold encV; split
    · exact page_len _
    · simp [zeros]
  refine sw_seq ?_
  refine sw_region ?_
  refine r_load_all (k := ?_)
  refine r_call1 (c_encode (a.with m) hmk) (by exact rfl) (by exact rfl) (by exact rfl) (PhAll.all (by repeat' (first | trivial | exact .head _ | exact .tail _ (.head _) | exact .tail _ (.tail _ (.head _)) | exact .tail _ (.tail _ (.tail _ (.head _))) | exact .tail _ (.tail _ (.tail _ (.tail _ (.head _)))) | exact .tail _ (.tail _ (.tail _ (.tail _ (.tail _ (.head _))))) | exact .tail _ (.tail _ (.tail _ (.tail _ (.tail _ (.tail _ (.head _)))))) | exact .tail _ (.tail _ (.tail _ (.tail _ (.tail _ (.tail _ (.tail _ (.head _))))))) | exact .tail _ (.tail _ (.tail _ (.tail _ (.tail _ (.tail _ (.tail _ (.tail _ (.head _)))))))) | exact .tail _ (.tail _ (.tail _ (.tail _ (.tail _ (.tail _ (.tail _ (.tail _ (.tail _ (.head _))))))))) | exact .tail _ (.tail _ (.tail _ (.tail _ (.tail _ (.tail _ (.tail _ (.tail _ (.tail _ (.tail _ (.head _)))))))))) | exact .tail _ (.tail _ (.tail _ (.tail _ (.tail _ (.tail _ (.tail _ (.tail _ (.tail _ (.tail _ (.tail _ (.head _))))))))))) | apply And.intro))) (by exact rfl) ?_
  obtain ⟨p, hp⟩ : ∃ p, p = (encV (a.with m)).1 := ⟨_, rfl⟩
  rw [← hp] at hel ⊢
  have hbp : (bv p).length = 256 := by rw [bv_len]; exact hel
  refine r_move (k := ?_)
  refine r_ext (k := ?_)
  refine r_ext (k := ?_)
  refine r_alloc (by exact z37) (cs := bv (zeros 256)) (by kernel_rfl) (by exact rfl) fun b6 => ?_
  refine r_store_all (cs := bv (zeros 256)) (vs := bv p) (by exact tz rfl) (by exact rfl) (by exact rfl) (by first | exact .hd | exact .tl (.hd) | exact .tl (.tl (.hd)) | exact .tl (.tl (.tl (.hd))) | exact .tl (.tl (.tl (.tl (.hd)))) | exact .tl (.tl (.tl (.tl (.tl (.hd))))) | exact .tl (.tl (.tl (.tl (.tl (.tl (.hd)))))) | exact .tl (.tl (.tl (.tl (.tl (.tl (.tl (.hd))))))) | exact .tl (.tl (.tl (.tl (.tl (.tl (.tl (.tl (.hd)))))))) | exact .tl (.tl (.tl (.tl (.tl (.tl (.tl (.tl (.tl (.hd))))))))) | exact .tl (.tl (.tl (.tl (.tl (.tl (.tl (.tl (.tl (.tl (.hd)))))))))) | exact .tl (.tl (.tl (.tl (.tl (.tl (.tl (.tl (.tl (.tl (.tl (.hd)))))))))))) rfl hbp (bv_one _) (by rw [bv_len]; rfl) ?_
  refine r_assign (k := ?_)
  refine sl_nil ?_
  refine sp_then ?_
  refine sw_seq ?_
  refine sw_region ?_
  refine r_load_all (cs := bv p) (by exact tz rfl) (by exact rfl) (by first | exact .head _ | exact .tail _ (.head _) | exact .tail _ (.tail _ (.head _)) | exact .tail _ (.tail _ (.tail _ (.head _))) | exact .tail _ (.tail _ (.tail _ (.tail _ (.head _)))) | exact .tail _ (.tail _ (.tail _ (.tail _ (.tail _ (.head _))))) | exact .tail _ (.tail _ (.tail _ (.tail _ (.tail _ (.tail _ (.head _)))))) | exact .tail _ (.tail _ (.tail _ (.tail _ (.tail _ (.tail _ (.tail _ (.head _))))))) | exact .tail _ (.tail _ (.tail _ (.tail _ (.tail _ (.tail _ (.tail _ (.tail _ (.head _)))))))) | exact .tail _ (.tail _ (.tail _ (.tail _ (.tail _ (.tail _ (.tail _ (.tail _ (.tail _ (.head _))))))))) | exact .tail _ (.tail _ (.tail _ (.tail _ (.tail _ (.tail _ (.tail _ (.tail _ (.tail _ (.tail _ (.head _)))))))))) | exact .tail _ (.tail _ (.tail _ (.tail _ (.tail _ (.tail _ (.tail _ (.tail _ (.tail _ (.tail _ (.tail _ (.head _)))))))))))) hbp (by exact rfl) ?_
  refine r_callF (c_dec p hel) (by exact rfl) (by exact rfl) (by exact rfl) (by simp) (by exact rfl) ?_
  rintro _ _ ⟨a3, rfl, hok3, hpure3, rfl⟩
  refine r_move (k := ?_)
  refine r_ext (k := ?_)
  refine r_ext (k := ?_)
  refine r_alloc (by exact z32) (cs := zeroA.cs) (by kernel_rfl) (by exact rfl) fun b8 => ?_
  refine r_store_all (cs := zeroA.cs) (vs := a3.cs) (by exact tz rfl) (by exact rfl) (by exact rfl) (by first | exact .hd | exact .tl (.hd) | exact .tl (.tl (.hd)) | exact .tl (.tl (.tl (.hd))) | exact .tl (.tl (.tl (.tl (.hd)))) | exact .tl (.tl (.tl (.tl (.tl (.hd))))) | exact .tl (.tl (.tl (.tl (.tl (.tl (.hd)))))) | exact .tl (.tl (.tl (.tl (.tl (.tl (.tl (.hd))))))) | exact .tl (.tl (.tl (.tl (.tl (.tl (.tl (.tl (.hd)))))))) | exact .tl (.tl (.tl (.tl (.tl (.tl (.tl (.tl (.tl (.hd))))))))) | exact .tl (.tl (.tl (.tl (.tl (.tl (.tl (.tl (.tl (.tl (.hd)))))))))) | exact .tl (.tl (.tl (.tl (.tl (.tl (.tl (.tl (.tl (.tl (.tl (.hd)))))))))))) rfl rfl rfl rfl ?_
  refine r_assign (k := ?_)
  refine sl_nil ?_
  refine sp_then ?_
  refine sw_seq ?_
  refine sw_region ?_
  refine r_move (k := ?_)
  refine r_eql (k := ?_)
  refine r_load_all (k := ?_)
  refine r_call1 (c_right GW (a.with m)) (by exact rfl) (by exact rfl) (by exact rfl) (PhAll.all (by repeat' (first | trivial | exact .head _ | exact .tail _ (.head _) | exact .tail _ (.tail _ (.head _)) | exact .tail _ (.tail _ (.tail _ (.head _))) | exact .tail _ (.tail _ (.tail _ (.tail _ (.head _)))) | exact .tail _ (.tail _ (.tail _ (.tail _ (.tail _ (.head _))))) | exact .tail _ (.tail _ (.tail _ (.tail _ (.tail _ (.tail _ (.head _)))))) | exact .tail _ (.tail _ (.tail _ (.tail _ (.tail _ (.tail _ (.tail _ (.head _))))))) | exact .tail _ (.tail _ (.tail _ (.tail _ (.tail _ (.tail _ (.tail _ (.tail _ (.head _)))))))) | exact .tail _ (.tail _ (.tail _ (.tail _ (.tail _ (.tail _ (.tail _ (.tail _ (.tail _ (.head _))))))))) | exact .tail _ (.tail _ (.tail _ (.tail _ (.tail _ (.tail _ (.tail _ (.tail _ (.tail _ (.tail _ (.head _)))))))))) | exact .tail _ (.tail _ (.tail _ (.tail _ (.tail _ (.tail _ (.tail _ (.tail _ (.tail _ (.tail _ (.tail _ (.head _))))))))))) | apply And.intro))) (by exact rfl) ?_
  cases hr : (a.with m).right with
  | true =>
    have he : encV (a.with m) = ((a.with m).page, 0) := by unfold encV; rw [hr]; rfl
    have hdp : decP p = ((a.with m).pure, 0) := by rw [hp, he]; exact page_decP _ hr
    rw [hdp] at hpure3 ⊢
    rw [he]
    dsimp only at hpure3 ⊢
    have hal : alikeV a3.mark m = true := by
      obtain ⟨_, _, _, _, _, _, h7, h8, h9, h10⟩ := AncP.mk.inj hpure3
      exact (alikeV_iff _ _).2 ⟨h7, h8, h9, h10⟩
    have hca := c_alike GW a3.mark m
    rw [hal] at hca
    refine r_eqlb' (k := ?_)
    refine r_move (k := ?_)
    refine r_re (t := 76) (v' := vb true) rfl rfl ?_
    refine gd_yes (k := ?_)
    refine r_move (k := ?_)
    refine gd_yes (k := ?_)
    refine r_neq (k := ?_)
    refine gd_yes (k := ?_)
    refine r_move (k := ?_)
    refine r_re (t := 79) (v' := vb false) rfl rfl ?_
    refine gd_yes (k := ?_)
    refine r_move (k := ?_)
    refine gd_yes (k := ?_)
    refine r_eql (k := ?_)
    refine gd_yes (k := ?_)
    refine r_move (k := ?_)
    refine r_re (t := 82) (v' := vb true) rfl rfl ?_
    refine gd_yes (k := ?_)
    refine r_fieldAddr (k := ?_)
    refine gd_yes (k := ?_)
    refine r_load_agg (k := ?_)
    refine gd_yes (k := ?_)
    refine r_load_all (k := ?_)
    refine gd_yes (k := ?_)
    refine r_call1 hca (by exact rfl) (by exact rfl) (by exact rfl) (PhAll.all (by repeat' (first | trivial | exact .head _ | exact .tail _ (.head _) | exact .tail _ (.tail _ (.head _)) | exact .tail _ (.tail _ (.tail _ (.head _))) | exact .tail _ (.tail _ (.tail _ (.tail _ (.head _)))) | exact .tail _ (.tail _ (.tail _ (.tail _ (.tail _ (.head _))))) | exact .tail _ (.tail _ (.tail _ (.tail _ (.tail _ (.tail _ (.head _)))))) | exact .tail _ (.tail _ (.tail _ (.tail _ (.tail _ (.tail _ (.tail _ (.head _))))))) | exact .tail _ (.tail _ (.tail _ (.tail _ (.tail _ (.tail _ (.tail _ (.tail _ (.head _)))))))) | exact .tail _ (.tail _ (.tail _ (.tail _ (.tail _ (.tail _ (.tail _ (.tail _ (.tail _ (.head _))))))))) | exact .tail _ (.tail _ (.tail _ (.tail _ (.tail _ (.tail _ (.tail _ (.tail _ (.tail _ (.tail _ (.head _)))))))))) | exact .tail _ (.tail _ (.tail _ (.tail _ (.tail _ (.tail _ (.tail _ (.tail _ (.tail _ (.tail _ (.tail _ (.head _))))))))))) | apply And.intro))) (by exact rfl) ?_
    refine gd_yes (k := ?_)
    refine rd_pick_t (k := ?_)
    refine gd_yes (k := ?_)
    refine rd_pick_f (k := ?_)
    refine rd_pick_t (k := ?_)
    refine r_move (k := ?_)
    refine gd_yes (k := ?_)
    refine r_call1 c_wakes (by exact rfl) (by exact rfl) (by exact rfl) (by simp) (by exact rfl) ?_
    refine rd_pick_t (k := ?_)
    refine r_assign (k := ?_)
    refine sl_nil ?_
    refine sp_then ?_
    refine sw_ret ?_
    refine sp_retv rfl rfl (.tmp rfl) rfl rfl ⟨rfl, rfl, rfl⟩ (by simp) rfl (by simp)
  | false =>
    have he : encV (a.with m) = (zeros 256, 2) := by unfold encV; rw [hr]; rfl
    rw [he]
    dsimp only
    refine r_eqlb' (k := ?_)
    refine r_move (k := ?_)
    refine r_re (t := 76) (v' := vb true) rfl rfl ?_
    refine gd_yes (k := ?_)
    refine r_move (k := ?_)
    refine gd_yes (k := ?_)
    refine r_neq (k := ?_)
    refine gd_yes (k := ?_)
    refine r_move (k := ?_)
    refine r_re (t := 79) (v' := vb true) rfl rfl ?_
    refine gd_no (k := ?_)
    refine gd_no (k := ?_)
    refine gd_no (k := ?_)
    refine gd_un (k := ?_)
    refine gd_un (k := ?_)
    refine gd_un (k := ?_)
    refine gd_un (k := ?_)
    refine gd_no (k := ?_)
    refine gd_yes (k := ?_)
    refine rd_pick_t (k := ?_)
    refine rd_pick_t (k := ?_)
    refine r_move (k := ?_)
    refine gd_yes (k := ?_)
    refine r_call1 c_wakes (by exact rfl) (by exact rfl) (by exact rfl) (by simp) (by exact rfl) ?_
    refine rd_pick_t (k := ?_)
    refine r_assign (k := ?_)
    refine sl_nil ?_
    refine sp_then ?_
    refine sw_ret ?_
    refine sp_retv rfl rfl (.tmp rfl) rfl rfl ⟨rfl, rfl, rfl⟩ (by simp) rfl (by simp)
end Go.Proofs.YtjahiohlekdhoaaDoor
