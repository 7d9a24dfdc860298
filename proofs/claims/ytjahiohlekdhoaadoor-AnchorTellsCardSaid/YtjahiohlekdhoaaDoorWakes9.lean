/-
  The walk of suturelaw09.wakes.
-/
import Derived.Test.YtjahiohlekdhoaaDoorLaw9
namespace Go.Proofs.YtjahiohlekdhoaaDoor
open Go
set_option maxHeartbeats 4000000
set_option maxRecDepth 4000
attribute [local irreducible] SW SL SP RA Then FQ IQ LoopQ RQ AQ NX CutQ Exit.noGoto

theorem beq_iff_dec {α : Type} [BEq α] [LawfulBEq α] (x y : α) : (x == y) = true ↔ x = y := beq_iff_eq
theorem alikeV_iff (a b : MkV) : alikeV a b = true ↔ a.on = b.on ∧ a.disk = b.disk ∧ a.since = b.since ∧ a.key.xs = b.key.xs := by
  simp only [alikeV, Bool.and_eq_true, decide_eq_true_eq, beq_iff_eq, Int.ofNat_inj, UInt8.toNat_inj, UInt32.toNat_inj]
theorem sameV_iff (a b : AncV) : sameV a b = true ↔ a.pure = b.pure := by
  simp only [sameV, Bool.and_eq_true, decide_eq_true_eq, Int.ofNat_inj, UInt8.toNat_inj, UInt32.toNat_inj, UInt16.toNat_inj, alikeV_iff, AncV.pure, AncP.mk.injEq]

theorem c_decode_zero : Ctr Tryd.prog GW 16 [.agg (bv (zeros 256)).toArray] [] [] (retF fun v Φ' => ∃ a : AncV, v = .tuple #[a.v, vi 50] ∧ a.mark.key.ok ∧ a.pure = AncP.zero ∧ Φ' = [a.mark.key.res]) := by
  have h := c_decode 0 (zeros 255) (by simp [zeros])
  rwa [show (0 :: zeros 255 : List UInt8) = zeros 256 from rfl, decV_zero] at h
theorem one_cons : (65 :: oneA.page.tail : List UInt8) = oneA.page := by kernel_rfl
theorem c_decode_one : Ctr Tryd.prog GW 16 [.agg (bv oneA.page).toArray] [] [] (retF fun v Φ' => ∃ a : AncV, v = .tuple #[a.v, vi 0] ∧ a.mark.key.ok ∧ a.pure = oneA.pure ∧ Φ' = [a.mark.key.res]) := by
  have h := c_decode 65 oneA.page.tail (by rw [one_cons]; exact page_len _)
  rwa [one_cons, decV_one] at h
theorem c_encode_one : Ctr Tryd.prog GW 14 [oneA.v] [] [BS.nil.res] (ret1 (.tuple #[.agg (bv oneA.page).toArray, vi 0])) := by
  have h := c_encode oneA ⟨Nat.le_refl _, Nat.zero_le _⟩
  rwa [encV_one] at h
theorem one_right : oneA.right = true := by kernel_rfl
theorem zero_right : zeroA.right = false := by kernel_rfl

theorem c_wakes : Ctr Tryd.prog GW 13 [] [] [] (ret1 (vb true)) := by
  refine Ctr.intro Tryd.func13 (by kernel_rfl) rfl Tryd.ntmps13 rfl rfl rfl fun w X => ?_
  refine sw_seq ?_
  refine sw_region ?_
  refine r_assign (k := ?_)
  refine sl_nil ?_
  refine sp_then ?_
  refine sw_seq ?_
  refine sw_region ?_
  refine r_buildP (bv (zeros 256)) (parts := []) (by exact rfl) (by kernel_rfl) (by exact rfl) ?_
  skip
  refine r_callF c_decode_zero (by exact rfl) (by exact rfl) (by exact rfl) (by simp) (by exact rfl) ?_
  rintro _ _ ⟨a1, rfl, hk1, hp1, rfl⟩
  refine r_move (k := ?_)
  refine r_ext (k := ?_)
  refine r_ext (k := ?_)
  refine r_alloc (by exact z32) (cs := zeroA.cs) (by kernel_rfl) (by exact rfl) fun b1 => ?_
  refine r_store_all (cs := zeroA.cs) (vs := a1.cs) (by exact tz rfl) (by exact rfl) (by exact rfl) (by first | exact .hd | exact .tl (.hd) | exact .tl (.tl (.hd)) | exact .tl (.tl (.tl (.hd))) | exact .tl (.tl (.tl (.tl (.hd)))) | exact .tl (.tl (.tl (.tl (.tl (.hd))))) | exact .tl (.tl (.tl (.tl (.tl (.tl (.hd)))))) | exact .tl (.tl (.tl (.tl (.tl (.tl (.tl (.hd))))))) | exact .tl (.tl (.tl (.tl (.tl (.tl (.tl (.tl (.hd)))))))) | exact .tl (.tl (.tl (.tl (.tl (.tl (.tl (.tl (.tl (.hd))))))))) | exact .tl (.tl (.tl (.tl (.tl (.tl (.tl (.tl (.tl (.tl (.hd)))))))))) | exact .tl (.tl (.tl (.tl (.tl (.tl (.tl (.tl (.tl (.tl (.tl (.hd)))))))))))) rfl rfl rfl rfl ?_
  refine f_have (φ := BS.nil.res) (fun V w hw => nil_res) ?_
  refine r_assign (k := ?_)
  refine sl_nil ?_
  refine sp_then ?_
  refine sw_seq ?_
  refine sw_region ?_
  refine r_call1 (c_one GW) (by exact rfl) (by exact rfl) (by exact rfl) (by simp) (by exact rfl) ?_
  refine r_call1 c_encode_one (by exact rfl) (by exact rfl) (by exact rfl) (by simp) (by exact rfl) ?_
  refine r_move (k := ?_)
  refine r_ext (k := ?_)
  refine r_ext (k := ?_)
  refine r_alloc (by exact z37) (cs := bv (zeros 256)) (by kernel_rfl) (by exact rfl) fun b3 => ?_
  refine r_store_all (cs := bv (zeros 256)) (vs := bv oneA.page) (by exact tz rfl) (by exact rfl) (by exact rfl) (by first | exact .hd | exact .tl (.hd) | exact .tl (.tl (.hd)) | exact .tl (.tl (.tl (.hd))) | exact .tl (.tl (.tl (.tl (.hd)))) | exact .tl (.tl (.tl (.tl (.tl (.hd))))) | exact .tl (.tl (.tl (.tl (.tl (.tl (.hd)))))) | exact .tl (.tl (.tl (.tl (.tl (.tl (.tl (.hd))))))) | exact .tl (.tl (.tl (.tl (.tl (.tl (.tl (.tl (.hd)))))))) | exact .tl (.tl (.tl (.tl (.tl (.tl (.tl (.tl (.tl (.hd))))))))) | exact .tl (.tl (.tl (.tl (.tl (.tl (.tl (.tl (.tl (.tl (.hd)))))))))) | exact .tl (.tl (.tl (.tl (.tl (.tl (.tl (.tl (.tl (.tl (.tl (.hd)))))))))))) rfl (by rw [bv_len]; exact page_len _) (bv_one _) (by rw [bv_len]; rfl) ?_
  refine r_assign (k := ?_)
  refine sl_nil ?_
  refine sp_then ?_
  refine sw_seq ?_
  refine sw_region ?_
  refine r_load_all (cs := bv oneA.page) (by exact tz rfl) (by exact rfl) (by first | exact .head _ | exact .tail _ (.head _) | exact .tail _ (.tail _ (.head _)) | exact .tail _ (.tail _ (.tail _ (.head _))) | exact .tail _ (.tail _ (.tail _ (.tail _ (.head _)))) | exact .tail _ (.tail _ (.tail _ (.tail _ (.tail _ (.head _))))) | exact .tail _ (.tail _ (.tail _ (.tail _ (.tail _ (.tail _ (.head _)))))) | exact .tail _ (.tail _ (.tail _ (.tail _ (.tail _ (.tail _ (.tail _ (.head _))))))) | exact .tail _ (.tail _ (.tail _ (.tail _ (.tail _ (.tail _ (.tail _ (.tail _ (.head _)))))))) | exact .tail _ (.tail _ (.tail _ (.tail _ (.tail _ (.tail _ (.tail _ (.tail _ (.tail _ (.head _))))))))) | exact .tail _ (.tail _ (.tail _ (.tail _ (.tail _ (.tail _ (.tail _ (.tail _ (.tail _ (.tail _ (.head _)))))))))) | exact .tail _ (.tail _ (.tail _ (.tail _ (.tail _ (.tail _ (.tail _ (.tail _ (.tail _ (.tail _ (.tail _ (.head _)))))))))))) (by rw [bv_len]; exact page_len _) (by exact rfl) ?_
  refine r_callF c_decode_one (by exact rfl) (by exact rfl) (by exact rfl) (by simp) (by exact rfl) ?_
  rintro _ _ ⟨a2, rfl, hk2, hp2, rfl⟩
  refine r_move (k := ?_)
  refine r_ext (k := ?_)
  refine r_ext (k := ?_)
  refine r_alloc (by exact z32) (cs := zeroA.cs) (by kernel_rfl) (by exact rfl) fun b5 => ?_
  refine r_store_all (cs := zeroA.cs) (vs := a2.cs) (by exact tz rfl) (by exact rfl) (by exact rfl) (by first | exact .hd | exact .tl (.hd) | exact .tl (.tl (.hd)) | exact .tl (.tl (.tl (.hd))) | exact .tl (.tl (.tl (.tl (.hd)))) | exact .tl (.tl (.tl (.tl (.tl (.hd))))) | exact .tl (.tl (.tl (.tl (.tl (.tl (.hd)))))) | exact .tl (.tl (.tl (.tl (.tl (.tl (.tl (.hd))))))) | exact .tl (.tl (.tl (.tl (.tl (.tl (.tl (.tl (.hd)))))))) | exact .tl (.tl (.tl (.tl (.tl (.tl (.tl (.tl (.tl (.hd))))))))) | exact .tl (.tl (.tl (.tl (.tl (.tl (.tl (.tl (.tl (.tl (.hd)))))))))) | exact .tl (.tl (.tl (.tl (.tl (.tl (.tl (.tl (.tl (.tl (.tl (.hd)))))))))))) rfl rfl rfl rfl ?_
  refine r_assign (k := ?_)
  refine sl_nil ?_
  refine sp_then ?_
  refine sw_seq ?_
  have hs : sameV a2 oneA = true := (sameV_iff _ _).2 hp2
  have h0 : (bv oneA.page)[0 * 1]? = some (v8 65) := by rw [← one_cons]; rfl
  
  refine sw_draw [(none, .box b5 a2.cs 32), (none, .box b3 (bv oneA.page) 37)] [a2.mark.key.res, BS.nil.res] [0, 1, 2, 3, 4, 5, 6, 7, 8, 9, 10, 11, 12, 13, 14, 15, 16, 17, 18, 19, 20, 21, 22, 23, 24, 25, 26, 27, 28, 29, 30, 31, 32, 33, 34, 35, 36, 37] mix (by kernel_rfl) rfl ?_
  
  refine ra1 (i := 0) [1, 2, 3, 4, 5, 6, 7, 8, 9, 10, 11, 12, 13, 14, 15, 16, 17, 18, 19, 20, 21, 22, 23, 24, 25, 26, 27, 28, 29, 30, 31, 32, 33, 34, 35, 36, 37] (h := ?_)
  refine r_call1 (c_slot GW 9) (by exact rfl) (by exact rfl) (by exact rfl) (by simp) (by exact rfl) ?_
  refine sl_nil ?_
  refine sp_nx (k := ?_)
  refine ra_first 1 [] [2, 3, 4, 5, 6, 7, 8, 9, 10, 11, 12, 13, 14, 15, 16, 17, 18, 19, 20, 21, 22, 23, 24, 25, 26, 27, 28, 29, 30, 31, 32, 33, 34, 35, 36, 37] (hq := by exact q_eql) (k := ?_)
  refine ra_first 2 [] [3, 4, 5, 6, 7, 8, 9, 10, 11, 12, 13, 14, 15, 16, 17, 18, 19, 20, 21, 22, 23, 24, 25, 26, 27, 28, 29, 30, 31, 32, 33, 34, 35, 36, 37] (hq := by exact q_move) (k := ?_)
  refine ra_firstg 3 [] [4, 5, 6, 7, 8, 9, 10, 11, 12, 13, 14, 15, 16, 17, 18, 19, 20, 21, 22, 23, 24, 25, 26, 27, 28, 29, 30, 31, 32, 33, 34, 35, 36, 37] (hq := by exact q_move) (k := ?_)
  refine ra_firstg 4 [] [5, 6, 7, 8, 9, 10, 11, 12, 13, 14, 15, 16, 17, 18, 19, 20, 21, 22, 23, 24, 25, 26, 27, 28, 29, 30, 31, 32, 33, 34, 35, 36, 37] (hq := by exact q_eql) (k := ?_)
  refine ra_first 5 [] [6, 7, 8, 9, 10, 11, 12, 13, 14, 15, 16, 17, 18, 19, 20, 21, 22, 23, 24, 25, 26, 27, 28, 29, 30, 31, 32, 33, 34, 35, 36, 37] (hq := by first | exact q_pick_t | exact q_pick_f) (k := ?_)
  refine ra_first 6 [] [7, 8, 9, 10, 11, 12, 13, 14, 15, 16, 17, 18, 19, 20, 21, 22, 23, 24, 25, 26, 27, 28, 29, 30, 31, 32, 33, 34, 35, 36, 37] (hq := by exact q_move) (k := ?_)
  refine ra_firstg 7 [] [8, 9, 10, 11, 12, 13, 14, 15, 16, 17, 18, 19, 20, 21, 22, 23, 24, 25, 26, 27, 28, 29, 30, 31, 32, 33, 34, 35, 36, 37] (hq := by exact q_move) (k := ?_)
  refine ra_firstg 8 [] [9, 10, 11, 12, 13, 14, 15, 16, 17, 18, 19, 20, 21, 22, 23, 24, 25, 26, 27, 28, 29, 30, 31, 32, 33, 34, 35, 36, 37] (hq := by exact q_eql) (k := ?_)
  refine ra_first 9 [] [10, 11, 12, 13, 14, 15, 16, 17, 18, 19, 20, 21, 22, 23, 24, 25, 26, 27, 28, 29, 30, 31, 32, 33, 34, 35, 36, 37] (hq := by first | exact q_pick_t | exact q_pick_f) (k := ?_)
  refine ra_first 10 [] [11, 12, 13, 14, 15, 16, 17, 18, 19, 20, 21, 22, 23, 24, 25, 26, 27, 28, 29, 30, 31, 32, 33, 34, 35, 36, 37] (hq := by exact q_move) (k := ?_)
  refine ra_firstg 11 [] [12, 13, 14, 15, 16, 17, 18, 19, 20, 21, 22, 23, 24, 25, 26, 27, 28, 29, 30, 31, 32, 33, 34, 35, 36, 37] (hq := by exact q_idx_arr) (k := ?_)
  refine ra_firstg 12 [(none, .box b5 a2.cs 32), (none, .box b3 (bv oneA.page) 37)] [13, 14, 15, 16, 17, 18, 19, 20, 21, 22, 23, 24, 25, 26, 27, 28, 29, 30, 31, 32, 33, 34, 35, 36, 37] (hq := by exact q_load_one (cs := bv oneA.page) (by exact tz rfl) (by exact rfl) (by first | exact .head _ | exact .tail _ (.head _) | exact .tail _ (.tail _ (.head _)) | exact .tail _ (.tail _ (.tail _ (.head _))) | exact .tail _ (.tail _ (.tail _ (.tail _ (.head _)))) | exact .tail _ (.tail _ (.tail _ (.tail _ (.tail _ (.head _))))) | exact .tail _ (.tail _ (.tail _ (.tail _ (.tail _ (.tail _ (.head _)))))) | exact .tail _ (.tail _ (.tail _ (.tail _ (.tail _ (.tail _ (.tail _ (.head _))))))) | exact .tail _ (.tail _ (.tail _ (.tail _ (.tail _ (.tail _ (.tail _ (.tail _ (.head _)))))))) | exact .tail _ (.tail _ (.tail _ (.tail _ (.tail _ (.tail _ (.tail _ (.tail _ (.tail _ (.head _))))))))) | exact .tail _ (.tail _ (.tail _ (.tail _ (.tail _ (.tail _ (.tail _ (.tail _ (.tail _ (.tail _ (.head _)))))))))) | exact .tail _ (.tail _ (.tail _ (.tail _ (.tail _ (.tail _ (.tail _ (.tail _ (.tail _ (.tail _ (.tail _ (.head _)))))))))))) h0) (k := ?_)
  refine ra_firstg 13 [] [14, 15, 16, 17, 18, 19, 20, 21, 22, 23, 24, 25, 26, 27, 28, 29, 30, 31, 32, 33, 34, 35, 36, 37] (hq := by exact q_eql) (k := ?_)
  refine ra_first 14 [] [15, 16, 17, 18, 19, 20, 21, 22, 23, 24, 25, 26, 27, 28, 29, 30, 31, 32, 33, 34, 35, 36, 37] (hq := by first | exact q_pick_t | exact q_pick_f) (k := ?_)
  refine ra_first 15 [] [16, 17, 18, 19, 20, 21, 22, 23, 24, 25, 26, 27, 28, 29, 30, 31, 32, 33, 34, 35, 36, 37] (hq := by exact q_move) (k := ?_)
  refine ra_firstg 16 [] [17, 18, 19, 20, 21, 22, 23, 24, 25, 26, 27, 28, 29, 30, 31, 32, 33, 34, 35, 36, 37] (hq := by exact q_move) (k := ?_)
  refine ra_firstg 17 [] [18, 19, 20, 21, 22, 23, 24, 25, 26, 27, 28, 29, 30, 31, 32, 33, 34, 35, 36, 37] (hq := by exact q_eql) (k := ?_)
  refine ra_first 18 [] [19, 20, 21, 22, 23, 24, 25, 26, 27, 28, 29, 30, 31, 32, 33, 34, 35, 36, 37] (hq := by first | exact q_pick_t | exact q_pick_f) (k := ?_)
  refine ra_first 19 [] [20, 21, 22, 23, 24, 25, 26, 27, 28, 29, 30, 31, 32, 33, 34, 35, 36, 37] (hq := by exact q_move) (k := ?_)
  refine ra_firstg 20 [(none, .box b5 a2.cs 32), (none, .box b3 (bv oneA.page) 37)] [21, 22, 23, 24, 25, 26, 27, 28, 29, 30, 31, 32, 33, 34, 35, 36, 37] (hq := by first | exact q_load_one | exact q_load_all | exact q_load_fr1 | exact q_load_fr) (k := ?_)
  refine ra1 (i := 21) [22, 23, 24, 25, 26, 27, 28, 29, 30, 31, 32, 33, 34, 35, 36, 37] (h := ?_)
  refine r_re (t := 41) (v' := vb true) rfl rfl ?_
  refine gd_yes (k := ?_)
  refine r_call1 (c_one GW) (by exact rfl) (by exact rfl) (by exact rfl) (by simp) (by exact rfl) ?_
  refine sl_nil ?_
  refine sp_nx (k := ?_)
  have hcs := c_rsame GW a2 oneA
  rw [hs] at hcs
  refine ra1 (i := 22) [23, 24, 25, 26, 27, 28, 29, 30, 31, 32, 33, 34, 35, 36, 37] (h := ?_)
  refine r_re (t := 41) (v' := vb true) rfl rfl ?_
  refine gd_yes (k := ?_)
  refine r_call1 hcs (by exact rfl) (by exact rfl) (by exact rfl) (PhAll.all (by repeat' (first | trivial | exact .head _ | exact .tail _ (.head _) | exact .tail _ (.tail _ (.head _)) | exact .tail _ (.tail _ (.tail _ (.head _))) | exact .tail _ (.tail _ (.tail _ (.tail _ (.head _)))) | exact .tail _ (.tail _ (.tail _ (.tail _ (.tail _ (.head _))))) | exact .tail _ (.tail _ (.tail _ (.tail _ (.tail _ (.tail _ (.head _)))))) | exact .tail _ (.tail _ (.tail _ (.tail _ (.tail _ (.tail _ (.tail _ (.head _))))))) | exact .tail _ (.tail _ (.tail _ (.tail _ (.tail _ (.tail _ (.tail _ (.tail _ (.head _)))))))) | exact .tail _ (.tail _ (.tail _ (.tail _ (.tail _ (.tail _ (.tail _ (.tail _ (.tail _ (.head _))))))))) | exact .tail _ (.tail _ (.tail _ (.tail _ (.tail _ (.tail _ (.tail _ (.tail _ (.tail _ (.tail _ (.head _)))))))))) | exact .tail _ (.tail _ (.tail _ (.tail _ (.tail _ (.tail _ (.tail _ (.tail _ (.tail _ (.tail _ (.tail _ (.head _))))))))))) | apply And.intro))) (by exact rfl) ?_
  refine sl_nil ?_
  refine sp_nx (k := ?_)
  refine ra_first 23 [] [24, 25, 26, 27, 28, 29, 30, 31, 32, 33, 34, 35, 36, 37] (hq := by first | exact q_pick_t | exact q_pick_f) (k := ?_)
  refine ra_first 24 [] [25, 26, 27, 28, 29, 30, 31, 32, 33, 34, 35, 36, 37] (hq := by exact q_move) (k := ?_)
  refine ra1 (i := 25) [26, 27, 28, 29, 30, 31, 32, 33, 34, 35, 36, 37] (h := ?_)
  refine r_re (t := 46) (v' := vb true) rfl rfl ?_
  refine gd_yes (k := ?_)
  refine f_have (φ := Res.mem none (ancsV [])) (fun V w hw i v h => by simp [ancsV] at h) ?_
  refine r_call1 (c_newest GW none 0 [] (Nat.zero_le _)) (by exact rfl) (by exact rfl) (by exact rfl) (by simp) (by exact rfl) ?_
  refine sl_nil ?_
  refine sp_nx (k := ?_)
  refine ra_firstg 26 [] [27, 28, 29, 30, 31, 32, 33, 34, 35, 36, 37] (hq := by exact q_eql) (k := ?_)
  refine ra_first 27 [] [28, 29, 30, 31, 32, 33, 34, 35, 36, 37] (hq := by first | exact q_pick_t | exact q_pick_f) (k := ?_)
  refine ra_first 28 [] [29, 30, 31, 32, 33, 34, 35, 36, 37] (hq := by exact q_move) (k := ?_)
  refine ra1 (i := 29) [30, 31, 32, 33, 34, 35, 36, 37] (h := ?_)
  refine r_re (t := 50) (v' := vb true) rfl rfl ?_
  refine gd_yes (k := ?_)
  refine r_call1 (c_one GW) (by exact rfl) (by exact rfl) (by exact rfl) (by simp) (by exact rfl) ?_
  refine sl_nil ?_
  refine sp_nx (k := ?_)
  have hr1 := c_right GW oneA
  rw [one_right] at hr1
  have hr0 := c_right GW zeroA
  rw [zero_right] at hr0
  refine ra1 (i := 30) [31, 32, 33, 34, 35, 36, 37] (h := ?_)
  refine r_re (t := 50) (v' := vb true) rfl rfl ?_
  refine gd_yes (k := ?_)
  refine r_call1 hr1 (by exact rfl) (by exact rfl) (by exact rfl) (PhAll.all (by repeat' (first | trivial | exact .head _ | exact .tail _ (.head _) | exact .tail _ (.tail _ (.head _)) | exact .tail _ (.tail _ (.tail _ (.head _))) | exact .tail _ (.tail _ (.tail _ (.tail _ (.head _)))) | exact .tail _ (.tail _ (.tail _ (.tail _ (.tail _ (.head _))))) | exact .tail _ (.tail _ (.tail _ (.tail _ (.tail _ (.tail _ (.head _)))))) | exact .tail _ (.tail _ (.tail _ (.tail _ (.tail _ (.tail _ (.tail _ (.head _))))))) | exact .tail _ (.tail _ (.tail _ (.tail _ (.tail _ (.tail _ (.tail _ (.tail _ (.head _)))))))) | exact .tail _ (.tail _ (.tail _ (.tail _ (.tail _ (.tail _ (.tail _ (.tail _ (.tail _ (.head _))))))))) | exact .tail _ (.tail _ (.tail _ (.tail _ (.tail _ (.tail _ (.tail _ (.tail _ (.tail _ (.tail _ (.head _)))))))))) | exact .tail _ (.tail _ (.tail _ (.tail _ (.tail _ (.tail _ (.tail _ (.tail _ (.tail _ (.tail _ (.tail _ (.head _))))))))))) | apply And.intro))) (by exact rfl) ?_
  refine sl_nil ?_
  refine sp_nx (k := ?_)
  refine ra_first 31 [] [32, 33, 34, 35, 36, 37] (hq := by first | exact q_pick_t | exact q_pick_f) (k := ?_)
  refine ra_first 32 [] [33, 34, 35, 36, 37] (hq := by exact q_move) (k := ?_)
  refine ra1 (i := 33) [34, 35, 36, 37] (h := ?_)
  refine r_re (t := 54) (v' := vb true) rfl rfl ?_
  refine gd_yes (k := ?_)
  refine r_buildP zeroA.cs (parts := []) (by exact rfl) (by kernel_rfl) (by exact rfl) ?_
  refine sl_nil ?_
  refine sp_nx (k := ?_)
  refine ra1 (i := 34) [35, 36, 37] (h := ?_)
  refine r_re (t := 54) (v' := vb true) rfl rfl ?_
  refine gd_yes (k := ?_)
  refine r_call1 hr0 (by exact rfl) (by exact rfl) (by exact rfl) (PhAll.all (by repeat' (first | trivial | exact .head _ | exact .tail _ (.head _) | exact .tail _ (.tail _ (.head _)) | exact .tail _ (.tail _ (.tail _ (.head _))) | exact .tail _ (.tail _ (.tail _ (.tail _ (.head _)))) | exact .tail _ (.tail _ (.tail _ (.tail _ (.tail _ (.head _))))) | exact .tail _ (.tail _ (.tail _ (.tail _ (.tail _ (.tail _ (.head _)))))) | exact .tail _ (.tail _ (.tail _ (.tail _ (.tail _ (.tail _ (.tail _ (.head _))))))) | exact .tail _ (.tail _ (.tail _ (.tail _ (.tail _ (.tail _ (.tail _ (.tail _ (.head _)))))))) | exact .tail _ (.tail _ (.tail _ (.tail _ (.tail _ (.tail _ (.tail _ (.tail _ (.tail _ (.head _))))))))) | exact .tail _ (.tail _ (.tail _ (.tail _ (.tail _ (.tail _ (.tail _ (.tail _ (.tail _ (.tail _ (.head _)))))))))) | exact .tail _ (.tail _ (.tail _ (.tail _ (.tail _ (.tail _ (.tail _ (.tail _ (.tail _ (.tail _ (.tail _ (.head _))))))))))) | apply And.intro))) (by exact rfl) ?_
  refine sl_nil ?_
  refine sp_nx (k := ?_)
  refine ra_firstg 35 [] [36, 37] (hq := by exact q_not) (k := ?_)
  refine ra_first 36 [] [37] (hq := by first | exact q_pick_t | exact q_pick_f) (k := ?_)
  refine ra1 (i := 37) [] (h := ?_)
  refine r_assign (k := ?_)
  refine sl_nil ?_
  refine sp_nx (k := ?_)
  refine ra_done ?_
  refine sp_then ?_
  refine sw_ret ?_
  refine sp_retv rfl rfl (.tmp rfl) rfl rfl ⟨?_, rfl, rfl⟩ (by simp) rfl (by simp)
  rfl
end Go.Proofs.YtjahiohlekdhoaaDoor
