/-
  The walk of suturelaw09.AnchorTells: it tells true.
-/
import Derived.Test.YtjahiohlekdhoaaDoorRef9d
namespace Go.Proofs.YtjahiohlekdhoaaDoor
open Go
set_option maxHeartbeats 4000000
set_option maxRecDepth 4000
attribute [local irreducible] SW SL SP RA Then FQ IQ LoopQ RQ AQ NX CutQ Exit.noGoto

theorem c_lawTells (a b : AncV) (ba : Option Addr) (cap : Nat) (L : List AncV) (p : List UInt8) (tx : UInt32) (hoka : a.mark.key.ok) (hn : L.length ≤ maxLen) (hp : p.length = 256) :
    Ctr Tryd.prog GW 6 [a.v, b.v, .slice ba L.length cap, .agg (bv p).toArray, v32 tx] [] [a.mark.key.res, b.mark.key.res, Res.mem ba (ancsV L)] (ret1 (vb true)) := by
  have hbp : (bv p).length = 256 := by rw [bv_len]; exact hp
  refine Ctr.intro Tryd.func6 (by kernel_rfl) rfl Tryd.ntmps6 rfl rfl rfl fun w X => ?_
  refine sw_seq ?_
  refine sw_region ?_
  refine r_box (cs := a.cs) (by exact rfl) rfl (by exact rfl) fun b5 => ?_
  refine r_box (cs := b.cs) (by exact rfl) rfl (by exact rfl) fun b6 => ?_
  refine r_box (cs := bv p) (by exact rfl) rfl (by exact rfl) fun b8 => ?_
  refine r_assign (k := ?_)
  refine sl_nil ?_
  refine sp_then ?_
  refine sw_seq ?_
  refine sw_seq ?_
  refine sw_region ?_
  refine r_load_all (k := ?_)
  refine r_load_all (k := ?_)
  refine r_lit (vs := [a.v, b.v]) (xs := [.tmp 19, .tmp 20]) (cells := ancsV [a, b]) (by exact tl rfl) (by exact z32) (by exact rfl) (by exact rfl) (by intro v hv; simp at hv; rcases hv with rfl | rfl <;> rfl) (by decide) (by decide) (by exact rfl) (by simp [ancsV, AncV.v, Value.cells]) (by exact rfl) fun q => ?_
  refine o_row fun ba' cap' e _ _ _ => ?_
  cases e
  refine r_call1 (c_great GW (some ⟨q, 0, none⟩) 2 [a, b] (by simp [maxLen])) (by exact rfl) (by exact rfl) (by exact rfl) (by simp) (by exact rfl) ?_
  refine f_set [a.mark.key.res, b.mark.key.res, Res.mem ba (ancsV L)] (fun V w hw φ hφ => hw φ (by simp at hφ ⊢; rcases hφ with rfl | rfl | rfl <;> simp)) ?_
  cases hg1 : greatV [a, b] with
  | true =>
    refine r_move (k := ?_)
    refine gd_no (k := ?_)
    refine gd_no (k := ?_)
    refine rd_pick_t (k := ?_)
    refine sl_nil ?_
    refine sp_then ?_
    refine swd_t (h := ?_)
    refine sw_seq ?_
    refine sw_region ?_
    refine r_call1 c_wakes (by exact rfl) (by exact rfl) (by exact rfl) (by simp) (by exact rfl) ?_
    refine r_assign (k := ?_)
    refine sl_nil ?_
    refine sp_then ?_
    refine sw_ret ?_
    refine sp_then_ret ?_
    refine sp_retv rfl rfl (.tmp rfl) rfl rfl ⟨rfl, rfl, rfl⟩ (by simp) rfl (by simp)
  | false =>
  refine r_move (k := ?_)
  refine gd_yes (k := ?_)
  refine r_move (k := ?_)
  refine gd_yes (k := ?_)
  refine r_call1 (c_great GW ba cap L hn) (by exact rfl) (by exact rfl) (by exact rfl) (by simp) (by exact rfl) ?_
  cases hg2 : greatV L with
  | true =>
    refine rd_pick_f (k := ?_)
    refine sl_nil ?_
    refine sp_then ?_
    refine swd_t (h := ?_)
    refine sw_seq ?_
    refine sw_region ?_
    refine r_call1 c_wakes (by exact rfl) (by exact rfl) (by exact rfl) (by simp) (by exact rfl) ?_
    refine r_assign (k := ?_)
    refine sl_nil ?_
    refine sp_then ?_
    refine sw_ret ?_
    refine sp_then_ret ?_
    refine sp_retv rfl rfl (.tmp rfl) rfl rfl ⟨rfl, rfl, rfl⟩ (by simp) rfl (by simp)
  | false =>
  have hel : (encV a).1.length = 256 := by
    unfold encV; split
    · exact page_len _
    · simp [zeros]
  refine rd_pick_f (k := ?_)
  refine sl_nil ?_
  refine sp_then ?_
  refine swd_f (h := ?_)
  refine sw_skip ?_
  refine sp_then ?_
  refine sw_seq ?_
  refine sw_region ?_
  refine r_load_all (k := ?_)
  have henc := c_encode a hoka
  have hrenc := c_r9encode a hoka
  obtain ⟨x, hx⟩ : ∃ x, x = (encV a).1 := ⟨_, rfl⟩
  obtain ⟨e, he⟩ : ∃ e, e = (encV a).2 := ⟨_, rfl⟩
  rw [← hx, ← he] at henc hrenc
  rw [← hx] at hel
  have hbx : (bv x).length = 256 := by rw [bv_len]; exact hel
  refine r_call1 henc (by exact rfl) (by exact rfl) (by exact rfl) (by simp) (by exact rfl) ?_
  refine r_move (k := ?_)
  refine r_ext (k := ?_)
  refine r_ext (k := ?_)
  refine r_alloc (by exact z37) (cs := bv (zeros 256)) (by kernel_rfl) (by exact rfl) fun b11 => ?_
  refine r_store_all (cs := bv (zeros 256)) (vs := bv x) (by exact tz rfl) (by exact rfl) (by exact rfl) (by first | exact .hd | exact .tl (.hd) | exact .tl (.tl (.hd)) | exact .tl (.tl (.tl (.hd))) | exact .tl (.tl (.tl (.tl (.hd)))) | exact .tl (.tl (.tl (.tl (.tl (.hd))))) | exact .tl (.tl (.tl (.tl (.tl (.tl (.hd)))))) | exact .tl (.tl (.tl (.tl (.tl (.tl (.tl (.hd))))))) | exact .tl (.tl (.tl (.tl (.tl (.tl (.tl (.tl (.hd)))))))) | exact .tl (.tl (.tl (.tl (.tl (.tl (.tl (.tl (.tl (.hd))))))))) | exact .tl (.tl (.tl (.tl (.tl (.tl (.tl (.tl (.tl (.tl (.hd)))))))))) | exact .tl (.tl (.tl (.tl (.tl (.tl (.tl (.tl (.tl (.tl (.tl (.hd)))))))))))) rfl hbx (bv_one _) rfl ?_
  refine r_assign (k := ?_)
  refine sl_nil ?_
  refine sp_then ?_
  refine sw_seq ?_
  refine sw_region ?_
  refine r_load_all (k := ?_)
  refine r_call1 hrenc (by exact rfl) (by exact rfl) (by exact rfl) (by simp) (by exact rfl) ?_
  refine r_move (k := ?_)
  refine r_ext (k := ?_)
  refine r_ext (k := ?_)
  refine r_alloc (by exact z37) (cs := bv (zeros 256)) (by kernel_rfl) (by exact rfl) fun b13 => ?_
  refine r_store_all (cs := bv (zeros 256)) (vs := bv x) (by exact tz rfl) (by exact rfl) (by exact rfl) (by first | exact .hd | exact .tl (.hd) | exact .tl (.tl (.hd)) | exact .tl (.tl (.tl (.hd))) | exact .tl (.tl (.tl (.tl (.hd)))) | exact .tl (.tl (.tl (.tl (.tl (.hd))))) | exact .tl (.tl (.tl (.tl (.tl (.tl (.hd)))))) | exact .tl (.tl (.tl (.tl (.tl (.tl (.tl (.hd))))))) | exact .tl (.tl (.tl (.tl (.tl (.tl (.tl (.tl (.hd)))))))) | exact .tl (.tl (.tl (.tl (.tl (.tl (.tl (.tl (.tl (.hd))))))))) | exact .tl (.tl (.tl (.tl (.tl (.tl (.tl (.tl (.tl (.tl (.hd)))))))))) | exact .tl (.tl (.tl (.tl (.tl (.tl (.tl (.tl (.tl (.tl (.tl (.hd)))))))))))) rfl hbx (bv_one _) rfl ?_
  refine r_assign (k := ?_)
  refine sl_nil ?_
  refine sp_then ?_
  refine sw_seq ?_
  refine sw_region ?_
  refine r_load_all (cs := bv p) (by exact tz rfl) (by exact rfl) (by first | exact .head _ | exact .tail _ (.head _) | exact .tail _ (.tail _ (.head _)) | exact .tail _ (.tail _ (.tail _ (.head _))) | exact .tail _ (.tail _ (.tail _ (.tail _ (.head _)))) | exact .tail _ (.tail _ (.tail _ (.tail _ (.tail _ (.head _))))) | exact .tail _ (.tail _ (.tail _ (.tail _ (.tail _ (.tail _ (.head _)))))) | exact .tail _ (.tail _ (.tail _ (.tail _ (.tail _ (.tail _ (.tail _ (.head _))))))) | exact .tail _ (.tail _ (.tail _ (.tail _ (.tail _ (.tail _ (.tail _ (.tail _ (.head _)))))))) | exact .tail _ (.tail _ (.tail _ (.tail _ (.tail _ (.tail _ (.tail _ (.tail _ (.tail _ (.head _))))))))) | exact .tail _ (.tail _ (.tail _ (.tail _ (.tail _ (.tail _ (.tail _ (.tail _ (.tail _ (.tail _ (.head _)))))))))) | exact .tail _ (.tail _ (.tail _ (.tail _ (.tail _ (.tail _ (.tail _ (.tail _ (.tail _ (.tail _ (.tail _ (.head _)))))))))))) hbp (by exact rfl) ?_
  refine r_callF (c_dec p hp) (by exact rfl) (by exact rfl) (by exact rfl) (by simp) (by exact rfl) ?_
  rintro _ _ ⟨c, rfl, hokc, hpc, rfl⟩
  refine r_move (k := ?_)
  refine r_ext (k := ?_)
  refine r_ext (k := ?_)
  refine r_alloc (by exact z32) (cs := zeroA.cs) (by kernel_rfl) (by exact rfl) fun b15 => ?_
  refine r_store_all (cs := zeroA.cs) (vs := c.cs) (by exact tz rfl) (by exact rfl) (by exact rfl) (by first | exact .hd | exact .tl (.hd) | exact .tl (.tl (.hd)) | exact .tl (.tl (.tl (.hd))) | exact .tl (.tl (.tl (.tl (.hd)))) | exact .tl (.tl (.tl (.tl (.tl (.hd))))) | exact .tl (.tl (.tl (.tl (.tl (.tl (.hd)))))) | exact .tl (.tl (.tl (.tl (.tl (.tl (.tl (.hd))))))) | exact .tl (.tl (.tl (.tl (.tl (.tl (.tl (.tl (.hd)))))))) | exact .tl (.tl (.tl (.tl (.tl (.tl (.tl (.tl (.tl (.hd))))))))) | exact .tl (.tl (.tl (.tl (.tl (.tl (.tl (.tl (.tl (.tl (.hd)))))))))) | exact .tl (.tl (.tl (.tl (.tl (.tl (.tl (.tl (.tl (.tl (.tl (.hd)))))))))))) rfl rfl rfl rfl ?_
  refine r_assign (k := ?_)
  refine sl_nil ?_
  refine sp_then ?_
  refine sw_seq ?_
  refine sw_region ?_
  refine r_load_all (cs := bv p) (by exact tz rfl) (by exact rfl) (by first | exact .head _ | exact .tail _ (.head _) | exact .tail _ (.tail _ (.head _)) | exact .tail _ (.tail _ (.tail _ (.head _))) | exact .tail _ (.tail _ (.tail _ (.tail _ (.head _)))) | exact .tail _ (.tail _ (.tail _ (.tail _ (.tail _ (.head _))))) | exact .tail _ (.tail _ (.tail _ (.tail _ (.tail _ (.tail _ (.head _)))))) | exact .tail _ (.tail _ (.tail _ (.tail _ (.tail _ (.tail _ (.tail _ (.head _))))))) | exact .tail _ (.tail _ (.tail _ (.tail _ (.tail _ (.tail _ (.tail _ (.tail _ (.head _)))))))) | exact .tail _ (.tail _ (.tail _ (.tail _ (.tail _ (.tail _ (.tail _ (.tail _ (.tail _ (.head _))))))))) | exact .tail _ (.tail _ (.tail _ (.tail _ (.tail _ (.tail _ (.tail _ (.tail _ (.tail _ (.tail _ (.head _)))))))))) | exact .tail _ (.tail _ (.tail _ (.tail _ (.tail _ (.tail _ (.tail _ (.tail _ (.tail _ (.tail _ (.tail _ (.head _)))))))))))) hbp (by exact rfl) ?_
  refine r_callF (c_r9dec p hp) (by exact rfl) (by exact rfl) (by exact rfl) (by simp) (by exact rfl) ?_
  rintro _ _ ⟨d, rfl, hokd, hpd, rfl⟩
  refine r_move (k := ?_)
  refine r_ext (k := ?_)
  refine r_ext (k := ?_)
  refine r_alloc (by exact z32) (cs := zeroA.cs) (by kernel_rfl) (by exact rfl) fun b17 => ?_
  refine r_store_all (cs := zeroA.cs) (vs := d.cs) (by exact tz rfl) (by exact rfl) (by exact rfl) (by first | exact .hd | exact .tl (.hd) | exact .tl (.tl (.hd)) | exact .tl (.tl (.tl (.hd))) | exact .tl (.tl (.tl (.tl (.hd)))) | exact .tl (.tl (.tl (.tl (.tl (.hd))))) | exact .tl (.tl (.tl (.tl (.tl (.tl (.hd)))))) | exact .tl (.tl (.tl (.tl (.tl (.tl (.tl (.hd))))))) | exact .tl (.tl (.tl (.tl (.tl (.tl (.tl (.tl (.hd)))))))) | exact .tl (.tl (.tl (.tl (.tl (.tl (.tl (.tl (.tl (.hd))))))))) | exact .tl (.tl (.tl (.tl (.tl (.tl (.tl (.tl (.tl (.tl (.hd)))))))))) | exact .tl (.tl (.tl (.tl (.tl (.tl (.tl (.tl (.tl (.tl (.tl (.hd)))))))))))) rfl rfl rfl rfl ?_
  refine r_assign (k := ?_)
  refine sl_nil ?_
  refine sp_then ?_
  obtain ⟨g, hg⟩ : ∃ g, g = (decP p).2 := ⟨_, rfl⟩
  rw [← hg]
  have hcd : sameV c d = true := (sameV_iff c d).2 (by rw [hpc, hpd])
  have hscd := c_rsame GW c d
  rw [hcd] at hscd
  
  refine sw_cut [(2, .slice ba L.length cap), (4, v32 tx), (5, .pointer (some ⟨b5, 0, none⟩)), (6, .pointer (some ⟨b6, 0, none⟩))] [.box b17 d.cs 32, .box b15 c.cs 32, .box b13 (bv x) 37, .box b11 (bv x) 37, .box b8 (bv p) 37, .box b6 b.cs 32, .box b5 a.cs 32] [a.mark.key.res, b.mark.key.res, Res.mem ba (ancsV L)] [] ?_ ?_
  · refine sw_seq ?_
    refine sw_draw [(none, .box b17 d.cs 32), (none, .box b15 c.cs 32), (none, .box b13 (bv x) 37), (none, .box b11 (bv x) 37), (none, .box b8 (bv p) 37), (none, .box b6 b.cs 32), (none, .box b5 a.cs 32)] [d.mark.key.res, c.mark.key.res, a.mark.key.res, b.mark.key.res, Res.mem ba (ancsV L)] [0, 1, 2, 3, 4, 5, 6, 7, 8, 9, 10, 11, 12, 13, 14, 15, 16, 17, 18, 19, 20, 21, 22, 23, 24, 25, 26, 27, 28, 29, 30, 31, 32, 33, 34, 35, 36] mix (by kernel_rfl) rfl ?_
    refine ra_first 0 [(none, .box b17 d.cs 32), (none, .box b15 c.cs 32), (none, .box b13 (bv x) 37), (none, .box b11 (bv x) 37), (none, .box b8 (bv p) 37), (none, .box b6 b.cs 32), (none, .box b5 a.cs 32)] [1, 2, 3, 4, 5, 6, 7, 8, 9, 10, 11, 12, 13, 14, 15, 16, 17, 18, 19, 20, 21, 22, 23, 24, 25, 26, 27, 28, 29, 30, 31, 32, 33, 34, 35, 36] (hq := by exact q_load_all (cs := bv x) (by exact tz rfl) (by exact rfl) (by first | exact .head _ | exact .tail _ (.head _) | exact .tail _ (.tail _ (.head _)) | exact .tail _ (.tail _ (.tail _ (.head _))) | exact .tail _ (.tail _ (.tail _ (.tail _ (.head _)))) | exact .tail _ (.tail _ (.tail _ (.tail _ (.tail _ (.head _))))) | exact .tail _ (.tail _ (.tail _ (.tail _ (.tail _ (.tail _ (.head _)))))) | exact .tail _ (.tail _ (.tail _ (.tail _ (.tail _ (.tail _ (.tail _ (.head _))))))) | exact .tail _ (.tail _ (.tail _ (.tail _ (.tail _ (.tail _ (.tail _ (.tail _ (.head _)))))))) | exact .tail _ (.tail _ (.tail _ (.tail _ (.tail _ (.tail _ (.tail _ (.tail _ (.tail _ (.head _))))))))) | exact .tail _ (.tail _ (.tail _ (.tail _ (.tail _ (.tail _ (.tail _ (.tail _ (.tail _ (.tail _ (.head _)))))))))) | exact .tail _ (.tail _ (.tail _ (.tail _ (.tail _ (.tail _ (.tail _ (.tail _ (.tail _ (.tail _ (.tail _ (.head _)))))))))))) hbx) (k := ?_)
    refine ra_first 1 [(none, .box b17 d.cs 32), (none, .box b15 c.cs 32), (none, .box b13 (bv x) 37), (none, .box b11 (bv x) 37), (none, .box b8 (bv p) 37), (none, .box b6 b.cs 32), (none, .box b5 a.cs 32)] [2, 3, 4, 5, 6, 7, 8, 9, 10, 11, 12, 13, 14, 15, 16, 17, 18, 19, 20, 21, 22, 23, 24, 25, 26, 27, 28, 29, 30, 31, 32, 33, 34, 35, 36] (hq := by exact q_load_all (cs := bv x) (by exact tz rfl) (by exact rfl) (by first | exact .head _ | exact .tail _ (.head _) | exact .tail _ (.tail _ (.head _)) | exact .tail _ (.tail _ (.tail _ (.head _))) | exact .tail _ (.tail _ (.tail _ (.tail _ (.head _)))) | exact .tail _ (.tail _ (.tail _ (.tail _ (.tail _ (.head _))))) | exact .tail _ (.tail _ (.tail _ (.tail _ (.tail _ (.tail _ (.head _)))))) | exact .tail _ (.tail _ (.tail _ (.tail _ (.tail _ (.tail _ (.tail _ (.head _))))))) | exact .tail _ (.tail _ (.tail _ (.tail _ (.tail _ (.tail _ (.tail _ (.tail _ (.head _)))))))) | exact .tail _ (.tail _ (.tail _ (.tail _ (.tail _ (.tail _ (.tail _ (.tail _ (.tail _ (.head _))))))))) | exact .tail _ (.tail _ (.tail _ (.tail _ (.tail _ (.tail _ (.tail _ (.tail _ (.tail _ (.tail _ (.head _)))))))))) | exact .tail _ (.tail _ (.tail _ (.tail _ (.tail _ (.tail _ (.tail _ (.tail _ (.tail _ (.tail _ (.tail _ (.head _)))))))))))) hbx) (k := ?_)
    refine ra1 (i := 2) [3, 4, 5, 6, 7, 8, 9, 10, 11, 12, 13, 14, 15, 16, 17, 18, 19, 20, 21, 22, 23, 24, 25, 26, 27, 28, 29, 30, 31, 32, 33, 34, 35, 36] (h := ?_)
    refine r_neagg (xs := (bv x).toArray) (ys := (bv x).toArray) (by exact rfl) (by exact rfl) (by kernel_rfl) (page_eq x x hel hel) (by exact rfl) ?_
    refine r_re (t := 50) (v' := vb false) rfl (by rw [beq_self_eq_true]; rfl) ?_
    refine sl_nil ?_
    refine sp_nx (k := ?_)
    refine ra_first 3 [] [4, 5, 6, 7, 8, 9, 10, 11, 12, 13, 14, 15, 16, 17, 18, 19, 20, 21, 22, 23, 24, 25, 26, 27, 28, 29, 30, 31, 32, 33, 34, 35, 36] (hq := by exact q_move) (k := ?_)
    
    refine ra_firstg 4 [] [5, 6, 7, 8, 9, 10, 11, 12, 13, 14, 15, 16, 17, 18, 19, 20, 21, 22, 23, 24, 25, 26, 27, 28, 29, 30, 31, 32, 33, 34, 35, 36] (hq := by exact q_move) (k := ?_)
    refine ra_firstg 5 [] [6, 7, 8, 9, 10, 11, 12, 13, 14, 15, 16, 17, 18, 19, 20, 21, 22, 23, 24, 25, 26, 27, 28, 29, 30, 31, 32, 33, 34, 35, 36] (hq := by exact q_move) (k := ?_)
    refine ra_firstg 6 [] [7, 8, 9, 10, 11, 12, 13, 14, 15, 16, 17, 18, 19, 20, 21, 22, 23, 24, 25, 26, 27, 28, 29, 30, 31, 32, 33, 34, 35, 36] (hq := by exact q_neq) (k := ?_)
    refine ra_first 7 [] [8, 9, 10, 11, 12, 13, 14, 15, 16, 17, 18, 19, 20, 21, 22, 23, 24, 25, 26, 27, 28, 29, 30, 31, 32, 33, 34, 35, 36] (hq := by first | exact q_pick_t | exact q_pick_f) (k := ?_)
    refine ra_re (t := 55) (v' := vb false) rfl (by simp) ?_
    refine ra_first 8 [] [9, 10, 11, 12, 13, 14, 15, 16, 17, 18, 19, 20, 21, 22, 23, 24, 25, 26, 27, 28, 29, 30, 31, 32, 33, 34, 35, 36] (hq := by exact q_move) (k := ?_)
    refine ra_firstg 9 [(none, .box b17 d.cs 32), (none, .box b15 c.cs 32), (none, .box b13 (bv x) 37), (none, .box b11 (bv x) 37), (none, .box b8 (bv p) 37), (none, .box b6 b.cs 32), (none, .box b5 a.cs 32)] [10, 11, 12, 13, 14, 15, 16, 17, 18, 19, 20, 21, 22, 23, 24, 25, 26, 27, 28, 29, 30, 31, 32, 33, 34, 35, 36] (hq := by first | exact q_load_one | exact q_load_all | exact q_load_fr1 | exact q_load_fr) (k := ?_)
    refine ra_firstg 10 [(none, .box b17 d.cs 32), (none, .box b15 c.cs 32), (none, .box b13 (bv x) 37), (none, .box b11 (bv x) 37), (none, .box b8 (bv p) 37), (none, .box b6 b.cs 32), (none, .box b5 a.cs 32)] [11, 12, 13, 14, 15, 16, 17, 18, 19, 20, 21, 22, 23, 24, 25, 26, 27, 28, 29, 30, 31, 32, 33, 34, 35, 36] (hq := by first | exact q_load_one | exact q_load_all | exact q_load_fr1 | exact q_load_fr) (k := ?_)
    refine ra1 (i := 11) [12, 13, 14, 15, 16, 17, 18, 19, 20, 21, 22, 23, 24, 25, 26, 27, 28, 29, 30, 31, 32, 33, 34, 35, 36] (h := ?_)
    refine gd_yes (k := ?_)
    refine r_call1 hscd (by exact rfl) (by exact rfl) (by exact rfl) (PhAll.all (by repeat' (first | trivial | exact .head _ | exact .tail _ (.head _) | exact .tail _ (.tail _ (.head _)) | exact .tail _ (.tail _ (.tail _ (.head _))) | exact .tail _ (.tail _ (.tail _ (.tail _ (.head _)))) | exact .tail _ (.tail _ (.tail _ (.tail _ (.tail _ (.head _))))) | exact .tail _ (.tail _ (.tail _ (.tail _ (.tail _ (.tail _ (.head _)))))) | exact .tail _ (.tail _ (.tail _ (.tail _ (.tail _ (.tail _ (.tail _ (.head _))))))) | exact .tail _ (.tail _ (.tail _ (.tail _ (.tail _ (.tail _ (.tail _ (.tail _ (.head _)))))))) | exact .tail _ (.tail _ (.tail _ (.tail _ (.tail _ (.tail _ (.tail _ (.tail _ (.tail _ (.head _))))))))) | exact .tail _ (.tail _ (.tail _ (.tail _ (.tail _ (.tail _ (.tail _ (.tail _ (.tail _ (.tail _ (.head _)))))))))) | exact .tail _ (.tail _ (.tail _ (.tail _ (.tail _ (.tail _ (.tail _ (.tail _ (.tail _ (.tail _ (.tail _ (.head _))))))))))) | apply And.intro))) (by exact rfl) ?_
    refine sl_nil ?_
    refine sp_nx (k := ?_)
    refine ra_firstg 12 [] [13, 14, 15, 16, 17, 18, 19, 20, 21, 22, 23, 24, 25, 26, 27, 28, 29, 30, 31, 32, 33, 34, 35, 36] (hq := by exact q_not) (k := ?_)
    refine ra_first 13 [] [14, 15, 16, 17, 18, 19, 20, 21, 22, 23, 24, 25, 26, 27, 28, 29, 30, 31, 32, 33, 34, 35, 36] (hq := by first | exact q_pick_t | exact q_pick_f) (k := ?_)
    refine ra_first 14 [] [15, 16, 17, 18, 19, 20, 21, 22, 23, 24, 25, 26, 27, 28, 29, 30, 31, 32, 33, 34, 35, 36] (hq := by exact q_move) (k := ?_)
    refine ra_firstg 15 [] [16, 17, 18, 19, 20, 21, 22, 23, 24, 25, 26, 27, 28, 29, 30, 31, 32, 33, 34, 35, 36] (hq := by exact q_move) (k := ?_)
    refine ra_firstg 16 [] [17, 18, 19, 20, 21, 22, 23, 24, 25, 26, 27, 28, 29, 30, 31, 32, 33, 34, 35, 36] (hq := by exact q_move) (k := ?_)
    refine ra_firstg 17 [] [18, 19, 20, 21, 22, 23, 24, 25, 26, 27, 28, 29, 30, 31, 32, 33, 34, 35, 36] (hq := by exact q_neq) (k := ?_)
    refine ra_re (t := 65) (v' := vb false) rfl (by simp) ?_
    refine ra_first 18 [] [19, 20, 21, 22, 23, 24, 25, 26, 27, 28, 29, 30, 31, 32, 33, 34, 35, 36] (hq := by first | exact q_pick_t | exact q_pick_f) (k := ?_)
    refine ra_first 19 [] [20, 21, 22, 23, 24, 25, 26, 27, 28, 29, 30, 31, 32, 33, 34, 35, 36] (hq := by exact q_move) (k := ?_)
    refine ra_firstg 20 [(none, .box b17 d.cs 32), (none, .box b15 c.cs 32), (none, .box b13 (bv x) 37), (none, .box b11 (bv x) 37), (none, .box b8 (bv p) 37), (none, .box b6 b.cs 32), (none, .box b5 a.cs 32)] [21, 22, 23, 24, 25, 26, 27, 28, 29, 30, 31, 32, 33, 34, 35, 36] (hq := by first | exact q_load_one | exact q_load_all | exact q_load_fr1 | exact q_load_fr) (k := ?_)
    refine ra_firstg 22 [(none, .box b17 d.cs 32), (none, .box b15 c.cs 32), (none, .box b13 (bv x) 37), (none, .box b11 (bv x) 37), (none, .box b8 (bv p) 37), (none, .box b6 b.cs 32), (none, .box b5 a.cs 32)] [21, 23, 24, 25, 26, 27, 28, 29, 30, 31, 32, 33, 34, 35, 36] (hq := by first | exact q_load_one | exact q_load_all | exact q_load_fr1 | exact q_load_fr) (k := ?_)
    refine ra1 (i := 21) [23, 24, 25, 26, 27, 28, 29, 30, 31, 32, 33, 34, 35, 36] (h := ?_)
    refine gd_yes (k := ?_)
    refine r_call1 (c_right GW a) (by exact rfl) (by exact rfl) (by exact rfl) (PhAll.all (by repeat' (first | trivial | exact .head _ | exact .tail _ (.head _) | exact .tail _ (.tail _ (.head _)) | exact .tail _ (.tail _ (.tail _ (.head _))) | exact .tail _ (.tail _ (.tail _ (.tail _ (.head _)))) | exact .tail _ (.tail _ (.tail _ (.tail _ (.tail _ (.head _))))) | exact .tail _ (.tail _ (.tail _ (.tail _ (.tail _ (.tail _ (.head _)))))) | exact .tail _ (.tail _ (.tail _ (.tail _ (.tail _ (.tail _ (.tail _ (.head _))))))) | exact .tail _ (.tail _ (.tail _ (.tail _ (.tail _ (.tail _ (.tail _ (.tail _ (.head _)))))))) | exact .tail _ (.tail _ (.tail _ (.tail _ (.tail _ (.tail _ (.tail _ (.tail _ (.tail _ (.head _))))))))) | exact .tail _ (.tail _ (.tail _ (.tail _ (.tail _ (.tail _ (.tail _ (.tail _ (.tail _ (.tail _ (.head _)))))))))) | exact .tail _ (.tail _ (.tail _ (.tail _ (.tail _ (.tail _ (.tail _ (.tail _ (.tail _ (.tail _ (.tail _ (.head _))))))))))) | apply And.intro))) (by exact rfl) ?_
    refine sl_nil ?_
    refine sp_nx (k := ?_)
    refine ra1 (i := 23) [24, 25, 26, 27, 28, 29, 30, 31, 32, 33, 34, 35, 36] (h := ?_)
    refine gd_yes (k := ?_)
    refine r_call1 (c_r9right GW a) (by exact rfl) (by exact rfl) (by exact rfl) (PhAll.all (by repeat' (first | trivial | exact .head _ | exact .tail _ (.head _) | exact .tail _ (.tail _ (.head _)) | exact .tail _ (.tail _ (.tail _ (.head _))) | exact .tail _ (.tail _ (.tail _ (.tail _ (.head _)))) | exact .tail _ (.tail _ (.tail _ (.tail _ (.tail _ (.head _))))) | exact .tail _ (.tail _ (.tail _ (.tail _ (.tail _ (.tail _ (.head _)))))) | exact .tail _ (.tail _ (.tail _ (.tail _ (.tail _ (.tail _ (.tail _ (.head _))))))) | exact .tail _ (.tail _ (.tail _ (.tail _ (.tail _ (.tail _ (.tail _ (.tail _ (.head _)))))))) | exact .tail _ (.tail _ (.tail _ (.tail _ (.tail _ (.tail _ (.tail _ (.tail _ (.tail _ (.head _))))))))) | exact .tail _ (.tail _ (.tail _ (.tail _ (.tail _ (.tail _ (.tail _ (.tail _ (.tail _ (.tail _ (.head _)))))))))) | exact .tail _ (.tail _ (.tail _ (.tail _ (.tail _ (.tail _ (.tail _ (.tail _ (.tail _ (.tail _ (.tail _ (.head _))))))))))) | apply And.intro))) (by exact rfl) ?_
    refine sl_nil ?_
    refine sp_nx (k := ?_)
    refine ra1 (i := 24) [25, 26, 27, 28, 29, 30, 31, 32, 33, 34, 35, 36] (h := ?_)
    refine gd_yes (k := ?_)
    refine r_neqb' (k := ?_)
    refine sl_nil ?_
    refine sp_re (t := 72) (v' := vb false) rfl (by simp) ?_
    refine sp_nx (k := ?_)
    refine ra_first 25 [] [26, 27, 28, 29, 30, 31, 32, 33, 34, 35, 36] (hq := by first | exact q_pick_t | exact q_pick_f) (k := ?_)
    refine ra_first 26 [] [27, 28, 29, 30, 31, 32, 33, 34, 35, 36] (hq := by exact q_move) (k := ?_)
    refine ra_firstg 27 [] [28, 29, 30, 31, 32, 33, 34, 35, 36] (hq := by exact q_fieldAddr) (k := ?_)
    refine ra_firstg 28 [(none, .box b17 d.cs 32), (none, .box b15 c.cs 32), (none, .box b13 (bv x) 37), (none, .box b11 (bv x) 37), (none, .box b8 (bv p) 37), (none, .box b6 b.cs 32), (none, .box b5 a.cs 32)] [29, 30, 31, 32, 33, 34, 35, 36] (hq := by exact q_load_agg (vs := a.mark.cs) (by exact tz rfl) (by exact rfl) (by first | exact .head _ | exact .tail _ (.head _) | exact .tail _ (.tail _ (.head _)) | exact .tail _ (.tail _ (.tail _ (.head _))) | exact .tail _ (.tail _ (.tail _ (.tail _ (.head _)))) | exact .tail _ (.tail _ (.tail _ (.tail _ (.tail _ (.head _))))) | exact .tail _ (.tail _ (.tail _ (.tail _ (.tail _ (.tail _ (.head _)))))) | exact .tail _ (.tail _ (.tail _ (.tail _ (.tail _ (.tail _ (.tail _ (.head _))))))) | exact .tail _ (.tail _ (.tail _ (.tail _ (.tail _ (.tail _ (.tail _ (.tail _ (.head _)))))))) | exact .tail _ (.tail _ (.tail _ (.tail _ (.tail _ (.tail _ (.tail _ (.tail _ (.tail _ (.head _))))))))) | exact .tail _ (.tail _ (.tail _ (.tail _ (.tail _ (.tail _ (.tail _ (.tail _ (.tail _ (.tail _ (.head _)))))))))) | exact .tail _ (.tail _ (.tail _ (.tail _ (.tail _ (.tail _ (.tail _ (.tail _ (.tail _ (.tail _ (.tail _ (.head _)))))))))))) rfl rfl) (k := ?_)
    refine ra_firstg 29 [] [30, 31, 32, 33, 34, 35, 36] (hq := by exact q_move) (k := ?_)
    refine ra_firstg 31 [] [30, 32, 33, 34, 35, 36] (hq := by exact q_fieldAddr) (k := ?_)
    refine ra_firstg 32 [(none, .box b17 d.cs 32), (none, .box b15 c.cs 32), (none, .box b13 (bv x) 37), (none, .box b11 (bv x) 37), (none, .box b8 (bv p) 37), (none, .box b6 b.cs 32), (none, .box b5 a.cs 32)] [30, 33, 34, 35, 36] (hq := by exact q_load_agg (vs := a.mark.cs) (by exact tz rfl) (by exact rfl) (by first | exact .head _ | exact .tail _ (.head _) | exact .tail _ (.tail _ (.head _)) | exact .tail _ (.tail _ (.tail _ (.head _))) | exact .tail _ (.tail _ (.tail _ (.tail _ (.head _)))) | exact .tail _ (.tail _ (.tail _ (.tail _ (.tail _ (.head _))))) | exact .tail _ (.tail _ (.tail _ (.tail _ (.tail _ (.tail _ (.head _)))))) | exact .tail _ (.tail _ (.tail _ (.tail _ (.tail _ (.tail _ (.tail _ (.head _))))))) | exact .tail _ (.tail _ (.tail _ (.tail _ (.tail _ (.tail _ (.tail _ (.tail _ (.head _)))))))) | exact .tail _ (.tail _ (.tail _ (.tail _ (.tail _ (.tail _ (.tail _ (.tail _ (.tail _ (.head _))))))))) | exact .tail _ (.tail _ (.tail _ (.tail _ (.tail _ (.tail _ (.tail _ (.tail _ (.tail _ (.tail _ (.head _)))))))))) | exact .tail _ (.tail _ (.tail _ (.tail _ (.tail _ (.tail _ (.tail _ (.tail _ (.tail _ (.tail _ (.tail _ (.head _)))))))))))) rfl rfl) (k := ?_)
    refine ra_firstg 33 [] [30, 34, 35, 36] (hq := by exact q_move) (k := ?_)
    refine ra1 (i := 30) [34, 35, 36] (h := ?_)
    refine gd_yes (k := ?_)
    refine r_call1 (c_marked GW a.mark tx) (by exact rfl) (by exact rfl) (by exact rfl) (PhAll.all (by repeat' (first | trivial | exact .head _ | exact .tail _ (.head _) | exact .tail _ (.tail _ (.head _)) | exact .tail _ (.tail _ (.tail _ (.head _))) | exact .tail _ (.tail _ (.tail _ (.tail _ (.head _)))) | exact .tail _ (.tail _ (.tail _ (.tail _ (.tail _ (.head _))))) | exact .tail _ (.tail _ (.tail _ (.tail _ (.tail _ (.tail _ (.head _)))))) | exact .tail _ (.tail _ (.tail _ (.tail _ (.tail _ (.tail _ (.tail _ (.head _))))))) | exact .tail _ (.tail _ (.tail _ (.tail _ (.tail _ (.tail _ (.tail _ (.tail _ (.head _)))))))) | exact .tail _ (.tail _ (.tail _ (.tail _ (.tail _ (.tail _ (.tail _ (.tail _ (.tail _ (.head _))))))))) | exact .tail _ (.tail _ (.tail _ (.tail _ (.tail _ (.tail _ (.tail _ (.tail _ (.tail _ (.tail _ (.head _)))))))))) | exact .tail _ (.tail _ (.tail _ (.tail _ (.tail _ (.tail _ (.tail _ (.tail _ (.tail _ (.tail _ (.tail _ (.head _))))))))))) | apply And.intro))) (by exact rfl) ?_
    refine sl_nil ?_
    refine sp_nx (k := ?_)
    refine ra1 (i := 34) [35, 36] (h := ?_)
    refine gd_yes (k := ?_)
    refine r_call1 (c_r9marked GW a.mark tx) (by exact rfl) (by exact rfl) (by exact rfl) (PhAll.all (by repeat' (first | trivial | exact .head _ | exact .tail _ (.head _) | exact .tail _ (.tail _ (.head _)) | exact .tail _ (.tail _ (.tail _ (.head _))) | exact .tail _ (.tail _ (.tail _ (.tail _ (.head _)))) | exact .tail _ (.tail _ (.tail _ (.tail _ (.tail _ (.head _))))) | exact .tail _ (.tail _ (.tail _ (.tail _ (.tail _ (.tail _ (.head _)))))) | exact .tail _ (.tail _ (.tail _ (.tail _ (.tail _ (.tail _ (.tail _ (.head _))))))) | exact .tail _ (.tail _ (.tail _ (.tail _ (.tail _ (.tail _ (.tail _ (.tail _ (.head _)))))))) | exact .tail _ (.tail _ (.tail _ (.tail _ (.tail _ (.tail _ (.tail _ (.tail _ (.tail _ (.head _))))))))) | exact .tail _ (.tail _ (.tail _ (.tail _ (.tail _ (.tail _ (.tail _ (.tail _ (.tail _ (.tail _ (.head _)))))))))) | exact .tail _ (.tail _ (.tail _ (.tail _ (.tail _ (.tail _ (.tail _ (.tail _ (.tail _ (.tail _ (.tail _ (.head _))))))))))) | apply And.intro))) (by exact rfl) ?_
    refine sl_nil ?_
    refine sp_nx (k := ?_)
    refine ra1 (i := 35) [36] (h := ?_)
    refine gd_yes (k := ?_)
    refine r_neqb' (k := ?_)
    refine sl_nil ?_
    refine sp_re (t := 83) (v' := vb false) rfl (by simp) ?_
    refine sp_nx (k := ?_)
    refine ra_first 36 [] [] (hq := by first | exact q_pick_t | exact q_pick_f) (k := ?_)
    refine ra_done ?_
    refine sp_then ?_
    refine swd_f (h := ?_)
    refine sw_skip ?_
    exact sp_cut (by repeat' (first | trivial | exact rfl | apply And.intro)) (by repeat' (first | trivial | exact .head _ | exact .tail _ (.head _) | exact .tail _ (.tail _ (.head _)) | exact .tail _ (.tail _ (.tail _ (.head _))) | exact .tail _ (.tail _ (.tail _ (.tail _ (.head _)))) | exact .tail _ (.tail _ (.tail _ (.tail _ (.tail _ (.head _))))) | exact .tail _ (.tail _ (.tail _ (.tail _ (.tail _ (.tail _ (.head _)))))) | exact .tail _ (.tail _ (.tail _ (.tail _ (.tail _ (.tail _ (.tail _ (.head _))))))) | exact .tail _ (.tail _ (.tail _ (.tail _ (.tail _ (.tail _ (.tail _ (.tail _ (.head _)))))))) | exact .tail _ (.tail _ (.tail _ (.tail _ (.tail _ (.tail _ (.tail _ (.tail _ (.tail _ (.head _))))))))) | exact .tail _ (.tail _ (.tail _ (.tail _ (.tail _ (.tail _ (.tail _ (.tail _ (.tail _ (.tail _ (.head _)))))))))) | exact .tail _ (.tail _ (.tail _ (.tail _ (.tail _ (.tail _ (.tail _ (.tail _ (.tail _ (.tail _ (.tail _ (.head _))))))))))) | apply And.intro))
  refine sw_seq ?_
  refine sw_draw [(none, .box b17 d.cs 32), (none, .box b15 c.cs 32), (none, .box b13 (bv x) 37), (none, .box b11 (bv x) 37), (none, .box b8 (bv p) 37), (none, .box b6 b.cs 32), (none, .box b5 a.cs 32)] [a.mark.key.res, b.mark.key.res, Res.mem ba (ancsV L)] [0, 1, 2, 3, 4, 5, 6, 7, 8, 9, 10, 11, 12, 13, 14, 15, 16, 17, 18, 19, 20, 21, 22, 23, 24, 25, 26, 27, 28, 29, 30, 31, 32, 33, 34, 35, 36, 37] mix (by kernel_rfl) rfl ?_
  
  refine ra_first 0 [] [1, 2, 3, 4, 5, 6, 7, 8, 9, 10, 11, 12, 13, 14, 15, 16, 17, 18, 19, 20, 21, 22, 23, 24, 25, 26, 27, 28, 29, 30, 31, 32, 33, 34, 35, 36, 37] (hq := by exact q_move) (k := ?_)
  refine ra_first 2 [] [1, 3, 4, 5, 6, 7, 8, 9, 10, 11, 12, 13, 14, 15, 16, 17, 18, 19, 20, 21, 22, 23, 24, 25, 26, 27, 28, 29, 30, 31, 32, 33, 34, 35, 36, 37] (hq := by exact q_move) (k := ?_)
  refine ra1 (i := 1) [3, 4, 5, 6, 7, 8, 9, 10, 11, 12, 13, 14, 15, 16, 17, 18, 19, 20, 21, 22, 23, 24, 25, 26, 27, 28, 29, 30, 31, 32, 33, 34, 35, 36, 37] (h := ?_)
  refine r_call1 (c_slot GW tx) (by exact rfl) (by exact rfl) (by exact rfl) (by simp) (by exact rfl) ?_
  refine sl_nil ?_
  refine sp_nx (k := ?_)
  refine ra1 (i := 3) [4, 5, 6, 7, 8, 9, 10, 11, 12, 13, 14, 15, 16, 17, 18, 19, 20, 21, 22, 23, 24, 25, 26, 27, 28, 29, 30, 31, 32, 33, 34, 35, 36, 37] (h := ?_)
  refine r_call1 (c_r9slot GW tx) (by exact rfl) (by exact rfl) (by exact rfl) (by simp) (by exact rfl) ?_
  refine sl_nil ?_
  refine sp_nx (k := ?_)
  refine ra_first 4 [] [5, 6, 7, 8, 9, 10, 11, 12, 13, 14, 15, 16, 17, 18, 19, 20, 21, 22, 23, 24, 25, 26, 27, 28, 29, 30, 31, 32, 33, 34, 35, 36, 37] (hq := by exact q_eql) (k := ?_)
  refine ra_re (t := 89) (v' := vb true) rfl (by simp) ?_
  refine ra_first 5 [] [6, 7, 8, 9, 10, 11, 12, 13, 14, 15, 16, 17, 18, 19, 20, 21, 22, 23, 24, 25, 26, 27, 28, 29, 30, 31, 32, 33, 34, 35, 36, 37] (hq := by exact q_move) (k := ?_)
  refine ra_firstg 6 [] [7, 8, 9, 10, 11, 12, 13, 14, 15, 16, 17, 18, 19, 20, 21, 22, 23, 24, 25, 26, 27, 28, 29, 30, 31, 32, 33, 34, 35, 36, 37] (hq := by exact q_move) (k := ?_)
  refine ra_firstg 8 [] [7, 9, 10, 11, 12, 13, 14, 15, 16, 17, 18, 19, 20, 21, 22, 23, 24, 25, 26, 27, 28, 29, 30, 31, 32, 33, 34, 35, 36, 37] (hq := by exact q_move) (k := ?_)
  refine ra1 (i := 7) [9, 10, 11, 12, 13, 14, 15, 16, 17, 18, 19, 20, 21, 22, 23, 24, 25, 26, 27, 28, 29, 30, 31, 32, 33, 34, 35, 36, 37] (h := ?_)
  refine gd_yes (k := ?_)
  refine r_call1 (c_newest GW ba cap L hn) (by exact rfl) (by exact rfl) (by exact rfl) (PhAll.all (by repeat' (first | trivial | exact .head _ | exact .tail _ (.head _) | exact .tail _ (.tail _ (.head _)) | exact .tail _ (.tail _ (.tail _ (.head _))) | exact .tail _ (.tail _ (.tail _ (.tail _ (.head _)))) | exact .tail _ (.tail _ (.tail _ (.tail _ (.tail _ (.head _))))) | exact .tail _ (.tail _ (.tail _ (.tail _ (.tail _ (.tail _ (.head _)))))) | exact .tail _ (.tail _ (.tail _ (.tail _ (.tail _ (.tail _ (.tail _ (.head _))))))) | exact .tail _ (.tail _ (.tail _ (.tail _ (.tail _ (.tail _ (.tail _ (.tail _ (.head _)))))))) | exact .tail _ (.tail _ (.tail _ (.tail _ (.tail _ (.tail _ (.tail _ (.tail _ (.tail _ (.head _))))))))) | exact .tail _ (.tail _ (.tail _ (.tail _ (.tail _ (.tail _ (.tail _ (.tail _ (.tail _ (.tail _ (.head _)))))))))) | exact .tail _ (.tail _ (.tail _ (.tail _ (.tail _ (.tail _ (.tail _ (.tail _ (.tail _ (.tail _ (.tail _ (.head _))))))))))) | apply And.intro))) (by exact rfl) ?_
  refine sl_nil ?_
  refine sp_nx (k := ?_)
  refine ra1 (i := 9) [10, 11, 12, 13, 14, 15, 16, 17, 18, 19, 20, 21, 22, 23, 24, 25, 26, 27, 28, 29, 30, 31, 32, 33, 34, 35, 36, 37] (h := ?_)
  refine gd_yes (k := ?_)
  refine r_call1 (c_r9newest GW ba cap L hn) (by exact rfl) (by exact rfl) (by exact rfl) (PhAll.all (by repeat' (first | trivial | exact .head _ | exact .tail _ (.head _) | exact .tail _ (.tail _ (.head _)) | exact .tail _ (.tail _ (.tail _ (.head _))) | exact .tail _ (.tail _ (.tail _ (.tail _ (.head _)))) | exact .tail _ (.tail _ (.tail _ (.tail _ (.tail _ (.head _))))) | exact .tail _ (.tail _ (.tail _ (.tail _ (.tail _ (.tail _ (.head _)))))) | exact .tail _ (.tail _ (.tail _ (.tail _ (.tail _ (.tail _ (.tail _ (.head _))))))) | exact .tail _ (.tail _ (.tail _ (.tail _ (.tail _ (.tail _ (.tail _ (.tail _ (.head _)))))))) | exact .tail _ (.tail _ (.tail _ (.tail _ (.tail _ (.tail _ (.tail _ (.tail _ (.tail _ (.head _))))))))) | exact .tail _ (.tail _ (.tail _ (.tail _ (.tail _ (.tail _ (.tail _ (.tail _ (.tail _ (.tail _ (.head _)))))))))) | exact .tail _ (.tail _ (.tail _ (.tail _ (.tail _ (.tail _ (.tail _ (.tail _ (.tail _ (.tail _ (.tail _ (.head _))))))))))) | apply And.intro))) (by exact rfl) ?_
  refine sl_nil ?_
  refine sp_nx (k := ?_)
  refine ra_firstg 10 [] [11, 12, 13, 14, 15, 16, 17, 18, 19, 20, 21, 22, 23, 24, 25, 26, 27, 28, 29, 30, 31, 32, 33, 34, 35, 36, 37] (hq := by exact q_eql) (k := ?_)
  refine ra_re (t := 95) (v' := vb true) rfl (by simp) ?_
  refine ra_first 11 [] [12, 13, 14, 15, 16, 17, 18, 19, 20, 21, 22, 23, 24, 25, 26, 27, 28, 29, 30, 31, 32, 33, 34, 35, 36, 37] (hq := by first | exact q_pick_t | exact q_pick_f) (k := ?_)
  refine ra_first 12 [] [13, 14, 15, 16, 17, 18, 19, 20, 21, 22, 23, 24, 25, 26, 27, 28, 29, 30, 31, 32, 33, 34, 35, 36, 37] (hq := by exact q_move) (k := ?_)
  refine ra_firstg 13 [(none, .box b17 d.cs 32), (none, .box b15 c.cs 32), (none, .box b13 (bv x) 37), (none, .box b11 (bv x) 37), (none, .box b8 (bv p) 37), (none, .box b6 b.cs 32), (none, .box b5 a.cs 32)] [14, 15, 16, 17, 18, 19, 20, 21, 22, 23, 24, 25, 26, 27, 28, 29, 30, 31, 32, 33, 34, 35, 36, 37] (hq := by first | exact q_load_one | exact q_load_all | exact q_load_fr1 | exact q_load_fr) (k := ?_)
  refine ra_firstg 14 [(none, .box b17 d.cs 32), (none, .box b15 c.cs 32), (none, .box b13 (bv x) 37), (none, .box b11 (bv x) 37), (none, .box b8 (bv p) 37), (none, .box b6 b.cs 32), (none, .box b5 a.cs 32)] [15, 16, 17, 18, 19, 20, 21, 22, 23, 24, 25, 26, 27, 28, 29, 30, 31, 32, 33, 34, 35, 36, 37] (hq := by first | exact q_load_one | exact q_load_all | exact q_load_fr1 | exact q_load_fr) (k := ?_)
  refine ra_firstg 16 [(none, .box b17 d.cs 32), (none, .box b15 c.cs 32), (none, .box b13 (bv x) 37), (none, .box b11 (bv x) 37), (none, .box b8 (bv p) 37), (none, .box b6 b.cs 32), (none, .box b5 a.cs 32)] [15, 17, 18, 19, 20, 21, 22, 23, 24, 25, 26, 27, 28, 29, 30, 31, 32, 33, 34, 35, 36, 37] (hq := by first | exact q_load_one | exact q_load_all | exact q_load_fr1 | exact q_load_fr) (k := ?_)
  refine ra_firstg 17 [(none, .box b17 d.cs 32), (none, .box b15 c.cs 32), (none, .box b13 (bv x) 37), (none, .box b11 (bv x) 37), (none, .box b8 (bv p) 37), (none, .box b6 b.cs 32), (none, .box b5 a.cs 32)] [15, 18, 19, 20, 21, 22, 23, 24, 25, 26, 27, 28, 29, 30, 31, 32, 33, 34, 35, 36, 37] (hq := by first | exact q_load_one | exact q_load_all | exact q_load_fr1 | exact q_load_fr) (k := ?_)
  refine ra1 (i := 15) [18, 19, 20, 21, 22, 23, 24, 25, 26, 27, 28, 29, 30, 31, 32, 33, 34, 35, 36, 37] (h := ?_)
  refine gd_yes (k := ?_)
  refine r_call1 (c_same GW a b) (by exact rfl) (by exact rfl) (by exact rfl) (PhAll.all (by repeat' (first | trivial | exact .head _ | exact .tail _ (.head _) | exact .tail _ (.tail _ (.head _)) | exact .tail _ (.tail _ (.tail _ (.head _))) | exact .tail _ (.tail _ (.tail _ (.tail _ (.head _)))) | exact .tail _ (.tail _ (.tail _ (.tail _ (.tail _ (.head _))))) | exact .tail _ (.tail _ (.tail _ (.tail _ (.tail _ (.tail _ (.head _)))))) | exact .tail _ (.tail _ (.tail _ (.tail _ (.tail _ (.tail _ (.tail _ (.head _))))))) | exact .tail _ (.tail _ (.tail _ (.tail _ (.tail _ (.tail _ (.tail _ (.tail _ (.head _)))))))) | exact .tail _ (.tail _ (.tail _ (.tail _ (.tail _ (.tail _ (.tail _ (.tail _ (.tail _ (.head _))))))))) | exact .tail _ (.tail _ (.tail _ (.tail _ (.tail _ (.tail _ (.tail _ (.tail _ (.tail _ (.tail _ (.head _)))))))))) | exact .tail _ (.tail _ (.tail _ (.tail _ (.tail _ (.tail _ (.tail _ (.tail _ (.tail _ (.tail _ (.tail _ (.head _))))))))))) | apply And.intro))) (by exact rfl) ?_
  refine sl_nil ?_
  refine sp_nx (k := ?_)
  refine ra1 (i := 18) [19, 20, 21, 22, 23, 24, 25, 26, 27, 28, 29, 30, 31, 32, 33, 34, 35, 36, 37] (h := ?_)
  refine gd_yes (k := ?_)
  refine r_call1 (c_rsame GW a b) (by exact rfl) (by exact rfl) (by exact rfl) (PhAll.all (by repeat' (first | trivial | exact .head _ | exact .tail _ (.head _) | exact .tail _ (.tail _ (.head _)) | exact .tail _ (.tail _ (.tail _ (.head _))) | exact .tail _ (.tail _ (.tail _ (.tail _ (.head _)))) | exact .tail _ (.tail _ (.tail _ (.tail _ (.tail _ (.head _))))) | exact .tail _ (.tail _ (.tail _ (.tail _ (.tail _ (.tail _ (.head _)))))) | exact .tail _ (.tail _ (.tail _ (.tail _ (.tail _ (.tail _ (.tail _ (.head _))))))) | exact .tail _ (.tail _ (.tail _ (.tail _ (.tail _ (.tail _ (.tail _ (.tail _ (.head _)))))))) | exact .tail _ (.tail _ (.tail _ (.tail _ (.tail _ (.tail _ (.tail _ (.tail _ (.tail _ (.head _))))))))) | exact .tail _ (.tail _ (.tail _ (.tail _ (.tail _ (.tail _ (.tail _ (.tail _ (.tail _ (.tail _ (.head _)))))))))) | exact .tail _ (.tail _ (.tail _ (.tail _ (.tail _ (.tail _ (.tail _ (.tail _ (.tail _ (.tail _ (.tail _ (.head _))))))))))) | apply And.intro))) (by exact rfl) ?_
  refine sl_nil ?_
  refine sp_nx (k := ?_)
  refine ra1 (i := 19) [20, 21, 22, 23, 24, 25, 26, 27, 28, 29, 30, 31, 32, 33, 34, 35, 36, 37] (h := ?_)
  refine gd_yes (k := ?_)
  refine r_eqlb' (k := ?_)
  refine sl_nil ?_
  refine sp_re (t := 104) (v' := vb true) rfl (by simp) ?_
  refine sp_nx (k := ?_)
  refine ra_first 20 [] [21, 22, 23, 24, 25, 26, 27, 28, 29, 30, 31, 32, 33, 34, 35, 36, 37] (hq := by first | exact q_pick_t | exact q_pick_f) (k := ?_)
  refine ra_first 21 [] [22, 23, 24, 25, 26, 27, 28, 29, 30, 31, 32, 33, 34, 35, 36, 37] (hq := by exact q_move) (k := ?_)
  refine ra_firstg 22 [] [23, 24, 25, 26, 27, 28, 29, 30, 31, 32, 33, 34, 35, 36, 37] (hq := by exact q_fieldAddr) (k := ?_)
  refine ra_firstg 23 [(none, .box b17 d.cs 32), (none, .box b15 c.cs 32), (none, .box b13 (bv x) 37), (none, .box b11 (bv x) 37), (none, .box b8 (bv p) 37), (none, .box b6 b.cs 32), (none, .box b5 a.cs 32)] [24, 25, 26, 27, 28, 29, 30, 31, 32, 33, 34, 35, 36, 37] (hq := by exact q_load_agg (vs := a.mark.cs) (by exact tz rfl) (by exact rfl) (by first | exact .head _ | exact .tail _ (.head _) | exact .tail _ (.tail _ (.head _)) | exact .tail _ (.tail _ (.tail _ (.head _))) | exact .tail _ (.tail _ (.tail _ (.tail _ (.head _)))) | exact .tail _ (.tail _ (.tail _ (.tail _ (.tail _ (.head _))))) | exact .tail _ (.tail _ (.tail _ (.tail _ (.tail _ (.tail _ (.head _)))))) | exact .tail _ (.tail _ (.tail _ (.tail _ (.tail _ (.tail _ (.tail _ (.head _))))))) | exact .tail _ (.tail _ (.tail _ (.tail _ (.tail _ (.tail _ (.tail _ (.tail _ (.head _)))))))) | exact .tail _ (.tail _ (.tail _ (.tail _ (.tail _ (.tail _ (.tail _ (.tail _ (.tail _ (.head _))))))))) | exact .tail _ (.tail _ (.tail _ (.tail _ (.tail _ (.tail _ (.tail _ (.tail _ (.tail _ (.tail _ (.head _)))))))))) | exact .tail _ (.tail _ (.tail _ (.tail _ (.tail _ (.tail _ (.tail _ (.tail _ (.tail _ (.tail _ (.tail _ (.head _)))))))))))) rfl rfl) (k := ?_)
  refine ra_firstg 24 [] [25, 26, 27, 28, 29, 30, 31, 32, 33, 34, 35, 36, 37] (hq := by exact q_fieldAddr) (k := ?_)
  refine ra_firstg 25 [(none, .box b17 d.cs 32), (none, .box b15 c.cs 32), (none, .box b13 (bv x) 37), (none, .box b11 (bv x) 37), (none, .box b8 (bv p) 37), (none, .box b6 b.cs 32), (none, .box b5 a.cs 32)] [26, 27, 28, 29, 30, 31, 32, 33, 34, 35, 36, 37] (hq := by exact q_load_agg (vs := b.mark.cs) (by exact tz rfl) (by exact rfl) (by first | exact .head _ | exact .tail _ (.head _) | exact .tail _ (.tail _ (.head _)) | exact .tail _ (.tail _ (.tail _ (.head _))) | exact .tail _ (.tail _ (.tail _ (.tail _ (.head _)))) | exact .tail _ (.tail _ (.tail _ (.tail _ (.tail _ (.head _))))) | exact .tail _ (.tail _ (.tail _ (.tail _ (.tail _ (.tail _ (.head _)))))) | exact .tail _ (.tail _ (.tail _ (.tail _ (.tail _ (.tail _ (.tail _ (.head _))))))) | exact .tail _ (.tail _ (.tail _ (.tail _ (.tail _ (.tail _ (.tail _ (.tail _ (.head _)))))))) | exact .tail _ (.tail _ (.tail _ (.tail _ (.tail _ (.tail _ (.tail _ (.tail _ (.tail _ (.head _))))))))) | exact .tail _ (.tail _ (.tail _ (.tail _ (.tail _ (.tail _ (.tail _ (.tail _ (.tail _ (.tail _ (.head _)))))))))) | exact .tail _ (.tail _ (.tail _ (.tail _ (.tail _ (.tail _ (.tail _ (.tail _ (.tail _ (.tail _ (.tail _ (.head _)))))))))))) rfl rfl) (k := ?_)
  refine ra_firstg 27 [] [26, 28, 29, 30, 31, 32, 33, 34, 35, 36, 37] (hq := by exact q_fieldAddr) (k := ?_)
  refine ra_firstg 28 [(none, .box b17 d.cs 32), (none, .box b15 c.cs 32), (none, .box b13 (bv x) 37), (none, .box b11 (bv x) 37), (none, .box b8 (bv p) 37), (none, .box b6 b.cs 32), (none, .box b5 a.cs 32)] [26, 29, 30, 31, 32, 33, 34, 35, 36, 37] (hq := by exact q_load_agg (vs := a.mark.cs) (by exact tz rfl) (by exact rfl) (by first | exact .head _ | exact .tail _ (.head _) | exact .tail _ (.tail _ (.head _)) | exact .tail _ (.tail _ (.tail _ (.head _))) | exact .tail _ (.tail _ (.tail _ (.tail _ (.head _)))) | exact .tail _ (.tail _ (.tail _ (.tail _ (.tail _ (.head _))))) | exact .tail _ (.tail _ (.tail _ (.tail _ (.tail _ (.tail _ (.head _)))))) | exact .tail _ (.tail _ (.tail _ (.tail _ (.tail _ (.tail _ (.tail _ (.head _))))))) | exact .tail _ (.tail _ (.tail _ (.tail _ (.tail _ (.tail _ (.tail _ (.tail _ (.head _)))))))) | exact .tail _ (.tail _ (.tail _ (.tail _ (.tail _ (.tail _ (.tail _ (.tail _ (.tail _ (.head _))))))))) | exact .tail _ (.tail _ (.tail _ (.tail _ (.tail _ (.tail _ (.tail _ (.tail _ (.tail _ (.tail _ (.head _)))))))))) | exact .tail _ (.tail _ (.tail _ (.tail _ (.tail _ (.tail _ (.tail _ (.tail _ (.tail _ (.tail _ (.tail _ (.head _)))))))))))) rfl rfl) (k := ?_)
  refine ra_firstg 29 [] [26, 30, 31, 32, 33, 34, 35, 36, 37] (hq := by exact q_fieldAddr) (k := ?_)
  refine ra_firstg 30 [(none, .box b17 d.cs 32), (none, .box b15 c.cs 32), (none, .box b13 (bv x) 37), (none, .box b11 (bv x) 37), (none, .box b8 (bv p) 37), (none, .box b6 b.cs 32), (none, .box b5 a.cs 32)] [26, 31, 32, 33, 34, 35, 36, 37] (hq := by exact q_load_agg (vs := b.mark.cs) (by exact tz rfl) (by exact rfl) (by first | exact .head _ | exact .tail _ (.head _) | exact .tail _ (.tail _ (.head _)) | exact .tail _ (.tail _ (.tail _ (.head _))) | exact .tail _ (.tail _ (.tail _ (.tail _ (.head _)))) | exact .tail _ (.tail _ (.tail _ (.tail _ (.tail _ (.head _))))) | exact .tail _ (.tail _ (.tail _ (.tail _ (.tail _ (.tail _ (.head _)))))) | exact .tail _ (.tail _ (.tail _ (.tail _ (.tail _ (.tail _ (.tail _ (.head _))))))) | exact .tail _ (.tail _ (.tail _ (.tail _ (.tail _ (.tail _ (.tail _ (.tail _ (.head _)))))))) | exact .tail _ (.tail _ (.tail _ (.tail _ (.tail _ (.tail _ (.tail _ (.tail _ (.tail _ (.head _))))))))) | exact .tail _ (.tail _ (.tail _ (.tail _ (.tail _ (.tail _ (.tail _ (.tail _ (.tail _ (.tail _ (.head _)))))))))) | exact .tail _ (.tail _ (.tail _ (.tail _ (.tail _ (.tail _ (.tail _ (.tail _ (.tail _ (.tail _ (.tail _ (.head _)))))))))))) rfl rfl) (k := ?_)
  refine ra1 (i := 26) [31, 32, 33, 34, 35, 36, 37] (h := ?_)
  refine gd_yes (k := ?_)
  refine r_call1 (c_alike GW a.mark b.mark) (by exact rfl) (by exact rfl) (by exact rfl) (PhAll.all (by repeat' (first | trivial | exact .head _ | exact .tail _ (.head _) | exact .tail _ (.tail _ (.head _)) | exact .tail _ (.tail _ (.tail _ (.head _))) | exact .tail _ (.tail _ (.tail _ (.tail _ (.head _)))) | exact .tail _ (.tail _ (.tail _ (.tail _ (.tail _ (.head _))))) | exact .tail _ (.tail _ (.tail _ (.tail _ (.tail _ (.tail _ (.head _)))))) | exact .tail _ (.tail _ (.tail _ (.tail _ (.tail _ (.tail _ (.tail _ (.head _))))))) | exact .tail _ (.tail _ (.tail _ (.tail _ (.tail _ (.tail _ (.tail _ (.tail _ (.head _)))))))) | exact .tail _ (.tail _ (.tail _ (.tail _ (.tail _ (.tail _ (.tail _ (.tail _ (.tail _ (.head _))))))))) | exact .tail _ (.tail _ (.tail _ (.tail _ (.tail _ (.tail _ (.tail _ (.tail _ (.tail _ (.tail _ (.head _)))))))))) | exact .tail _ (.tail _ (.tail _ (.tail _ (.tail _ (.tail _ (.tail _ (.tail _ (.tail _ (.tail _ (.tail _ (.head _))))))))))) | apply And.intro))) (by exact rfl) ?_
  refine sl_nil ?_
  refine sp_nx (k := ?_)
  refine ra1 (i := 31) [32, 33, 34, 35, 36, 37] (h := ?_)
  refine gd_yes (k := ?_)
  refine r_call1 (c_ralike GW a.mark b.mark) (by exact rfl) (by exact rfl) (by exact rfl) (PhAll.all (by repeat' (first | trivial | exact .head _ | exact .tail _ (.head _) | exact .tail _ (.tail _ (.head _)) | exact .tail _ (.tail _ (.tail _ (.head _))) | exact .tail _ (.tail _ (.tail _ (.tail _ (.head _)))) | exact .tail _ (.tail _ (.tail _ (.tail _ (.tail _ (.head _))))) | exact .tail _ (.tail _ (.tail _ (.tail _ (.tail _ (.tail _ (.head _)))))) | exact .tail _ (.tail _ (.tail _ (.tail _ (.tail _ (.tail _ (.tail _ (.head _))))))) | exact .tail _ (.tail _ (.tail _ (.tail _ (.tail _ (.tail _ (.tail _ (.tail _ (.head _)))))))) | exact .tail _ (.tail _ (.tail _ (.tail _ (.tail _ (.tail _ (.tail _ (.tail _ (.tail _ (.head _))))))))) | exact .tail _ (.tail _ (.tail _ (.tail _ (.tail _ (.tail _ (.tail _ (.tail _ (.tail _ (.tail _ (.head _)))))))))) | exact .tail _ (.tail _ (.tail _ (.tail _ (.tail _ (.tail _ (.tail _ (.tail _ (.tail _ (.tail _ (.tail _ (.head _))))))))))) | apply And.intro))) (by exact rfl) ?_
  refine sl_nil ?_
  refine sp_nx (k := ?_)
  refine ra1 (i := 32) [33, 34, 35, 36, 37] (h := ?_)
  refine gd_yes (k := ?_)
  refine r_eqlb' (k := ?_)
  refine sl_nil ?_
  refine sp_re (t := 117) (v' := vb true) rfl (by simp) ?_
  refine sp_nx (k := ?_)
  refine ra_first 33 [] [34, 35, 36, 37] (hq := by first | exact q_pick_t | exact q_pick_f) (k := ?_)
  refine ra_first 34 [] [35, 36, 37] (hq := by exact q_move) (k := ?_)
  refine ra1 (i := 35) [36, 37] (h := ?_)
  refine gd_yes (k := ?_)
  refine r_call1 c_wakes (by exact rfl) (by exact rfl) (by exact rfl) (by simp) (by exact rfl) ?_
  refine sl_nil ?_
  refine sp_nx (k := ?_)
  refine ra_first 36 [] [37] (hq := by first | exact q_pick_t | exact q_pick_f) (k := ?_)
  refine ra_first 37 [] [] (hq := by exact q_assign) (k := ?_)
  refine ra_done ?_
  refine sp_then ?_
  refine sw_ret ?_
  refine sp_retv rfl rfl (.tmp rfl) rfl rfl ⟨rfl, rfl, rfl⟩ (by simp) rfl (by simp)
end Go.Proofs.YtjahiohlekdhoaaDoor
