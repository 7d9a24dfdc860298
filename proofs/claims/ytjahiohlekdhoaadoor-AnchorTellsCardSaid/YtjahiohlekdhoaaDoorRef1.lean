/-
  The walks of the document's crc.
-/
import Derived.Test.YtjahiohlekdhoaaDoorCrc
import Derived.Test.YtjahiohlekdhoaaDoorE16
import Derived.Test.YtjahiohlekdhoaaDoorBurst
namespace Go.Proofs.YtjahiohlekdhoaaDoor
open Go
set_option maxHeartbeats 4000000
set_option maxRecDepth 4000
attribute [local irreducible] SW SL SP RA Then FQ IQ LoopQ RQ AQ NX CutQ Exit.noGoto

theorem and1_toNat (c : UInt64) : (c &&& UInt64.ofNat 1).toNat = c.toNat % 2 := by
  rw [UInt64.toNat_and, show (UInt64.ofNat 1).toNat = 1 from rfl, Nat.and_one_is_mod]
theorem rk_odd (c : UInt64) (h : ((c &&& UInt64.ofNat 1).toNat : Int) = 1) : rk c = (c >>> UInt64.ofNat 1) ^^^ UInt64.ofNat 14514072000185962306 := by
  have e : c &&& 1 = 1 := UInt64.toNat_inj.1 (by have := Int.ofNat_inj.1 h; exact this)
  unfold rk
  rw [e, UInt64.mul_one]
  rfl
theorem rk_even (c : UInt64) (h : ¬ ((c &&& UInt64.ofNat 1).toNat : Int) = 1) : rk c = c >>> UInt64.ofNat 1 := by
  have e : c &&& 1 = 0 := UInt64.toNat_inj.1 (by
    have h1 := and1_toNat c
    have h2 : (c &&& UInt64.ofNat 1).toNat = 0 := by omega
    exact h2)
  unfold rk
  rw [e, UInt64.mul_zero, UInt64.xor_zero]
theorem rkN_step (x : UInt64) (b : UInt8) : rkN 8 (x ^^^ b.toUInt64) = step x b := UInt64.toBitVec_inj.1 (by rw [rkN_T, step_T, UInt64.toBitVec_xor])

theorem c_r1step (G : Res) (x : UInt64) (b : UInt8) : Ctr Tryd.prog G 94 [v64 x, v8 b] [] [] (ret1 (v64 (step x b))) := by
  refine Ctr.intro Tryd.func94 (by kernel_rfl) rfl Tryd.ntmps94 rfl rfl rfl fun w X => ?_
  refine sw_seq ?_
  refine sw_region ?_
  refine r_assign (k := ?_)
  refine sl_nil ?_
  refine sp_then ?_
  refine sw_seq ?_
  refine sw_region ?_
  refine r_move (k := ?_)
  refine r_move (k := ?_)
  refine r_cv_8_64 (k := ?_)
  refine r_xor64 (k := ?_)
  refine r_assign (k := ?_)
  refine sl_nil ?_
  refine sp_then ?_
  refine sw_seq ?_
  refine sw_seq ?_
  refine sw_region ?_
  refine r_assign (k := ?_)
  refine sl_nil ?_
  refine sp_then ?_
  refine sw_block ?_
  refine sw_loop (ι := { i : Nat // i ≤ 8 }) (fun i => [(0, v64 (rkN i.1 (x ^^^ b.toUInt64))), (5, vi (i.1 : Int))]) (fun _ => []) (fun _ => []) (fun _ => []) (fun i => 8 - i.1) ⟨0, by omega⟩ ?_ fun i => ?_
  · exact Ent.mk' (by repeat' (first | trivial | exact rfl | apply And.intro)) (by repeat' (first | trivial | exact .head _ | exact .tail _ (.head _) | exact .tail _ (.tail _ (.head _)) | exact .tail _ (.tail _ (.tail _ (.head _))) | exact .tail _ (.tail _ (.tail _ (.tail _ (.head _)))) | exact .tail _ (.tail _ (.tail _ (.tail _ (.tail _ (.head _))))) | exact .tail _ (.tail _ (.tail _ (.tail _ (.tail _ (.tail _ (.head _)))))) | exact .tail _ (.tail _ (.tail _ (.tail _ (.tail _ (.tail _ (.tail _ (.head _))))))) | exact .tail _ (.tail _ (.tail _ (.tail _ (.tail _ (.tail _ (.tail _ (.tail _ (.head _)))))))) | exact .tail _ (.tail _ (.tail _ (.tail _ (.tail _ (.tail _ (.tail _ (.tail _ (.tail _ (.head _))))))))) | exact .tail _ (.tail _ (.tail _ (.tail _ (.tail _ (.tail _ (.tail _ (.tail _ (.tail _ (.tail _ (.head _)))))))))) | exact .tail _ (.tail _ (.tail _ (.tail _ (.tail _ (.tail _ (.tail _ (.tail _ (.tail _ (.tail _ (.tail _ (.head _))))))))))) | apply And.intro))
  obtain ⟨i, hi⟩ := i
  dsimp only
  refine sw_seq ?_
  refine sw_seq ?_
  refine sw_region ?_
  refine r_move (k := ?_)
  refine r_lss (k := ?_)
  refine sl_nil ?_
  refine sp_then ?_
  refine sw_cond rfl (fun h => ?_) (fun h => ?_)
  · have h := of_decide_eq_true h
    refine sw_skip ?_
    refine sp_then ?_
    refine sw_seq ?_
    refine sw_block ?_
    refine sw_seq ?_
    refine sw_region ?_
    refine r_move (k := ?_)
    refine r_and64c (k := ?_)
    refine r_assign (k := ?_)
    refine sl_nil ?_
    refine sp_then ?_
    refine sw_seq ?_
    refine sw_region ?_
    refine r_move (k := ?_)
    refine r_shr64 (k := ?_)
    refine r_assign (k := ?_)
    refine sl_nil ?_
    refine sp_then ?_
    refine sw_seq ?_
    refine sw_region ?_
    refine r_move (k := ?_)
    refine r_eql (k := ?_)
    refine sl_nil ?_
    refine sp_then ?_
    refine sw_cond rfl (fun h1 => ?_) (fun h1 => ?_)
    · have h1 := of_decide_eq_true h1
      refine sw_region ?_
      refine r_move (k := ?_)
      refine r_xor64c (k := ?_)
      refine r_assign (k := ?_)
      refine sl_nil ?_
      refine sp_block ?_
      refine sp_then ?_
      refine sw_region ?_
      refine r_move (k := ?_)
      refine r_add64 (k := ?_)
      refine r_assign (k := ?_)
      refine sl_nil ?_
      refine sp_re (t := 0) (v' := v64 (rkN (i + 1) (x ^^^ b.toUInt64))) rfl (by rw [rkN, rk_odd _ h1]) ?_
      refine sp_loop (ι := { i : Nat // i ≤ 8 }) ⟨i + 1, by omega⟩ ?_ ?_
      · dsimp only; omega
      · exact Ent.mk' (by repeat' (first | trivial | exact rfl | apply And.intro)) (by repeat' (first | trivial | exact .head _ | exact .tail _ (.head _) | exact .tail _ (.tail _ (.head _)) | exact .tail _ (.tail _ (.tail _ (.head _))) | exact .tail _ (.tail _ (.tail _ (.tail _ (.head _)))) | exact .tail _ (.tail _ (.tail _ (.tail _ (.tail _ (.head _))))) | exact .tail _ (.tail _ (.tail _ (.tail _ (.tail _ (.tail _ (.head _)))))) | exact .tail _ (.tail _ (.tail _ (.tail _ (.tail _ (.tail _ (.tail _ (.head _))))))) | exact .tail _ (.tail _ (.tail _ (.tail _ (.tail _ (.tail _ (.tail _ (.tail _ (.head _)))))))) | exact .tail _ (.tail _ (.tail _ (.tail _ (.tail _ (.tail _ (.tail _ (.tail _ (.tail _ (.head _))))))))) | exact .tail _ (.tail _ (.tail _ (.tail _ (.tail _ (.tail _ (.tail _ (.tail _ (.tail _ (.tail _ (.head _)))))))))) | exact .tail _ (.tail _ (.tail _ (.tail _ (.tail _ (.tail _ (.tail _ (.tail _ (.tail _ (.tail _ (.tail _ (.head _))))))))))) | apply And.intro))
    · have h1 := of_decide_eq_false h1
      refine sw_skip ?_
      refine sp_block ?_
      refine sp_then ?_
      refine sw_region ?_
      refine r_move (k := ?_)
      refine r_add64 (k := ?_)
      refine r_assign (k := ?_)
      refine sl_nil ?_
      refine sp_re (t := 0) (v' := v64 (rkN (i + 1) (x ^^^ b.toUInt64))) rfl (by rw [rkN, rk_even _ h1]) ?_
      refine sp_loop (ι := { i : Nat // i ≤ 8 }) ⟨i + 1, by omega⟩ ?_ ?_
      · dsimp only; omega
      · exact Ent.mk' (by repeat' (first | trivial | exact rfl | apply And.intro)) (by repeat' (first | trivial | exact .head _ | exact .tail _ (.head _) | exact .tail _ (.tail _ (.head _)) | exact .tail _ (.tail _ (.tail _ (.head _))) | exact .tail _ (.tail _ (.tail _ (.tail _ (.head _)))) | exact .tail _ (.tail _ (.tail _ (.tail _ (.tail _ (.head _))))) | exact .tail _ (.tail _ (.tail _ (.tail _ (.tail _ (.tail _ (.head _)))))) | exact .tail _ (.tail _ (.tail _ (.tail _ (.tail _ (.tail _ (.tail _ (.head _))))))) | exact .tail _ (.tail _ (.tail _ (.tail _ (.tail _ (.tail _ (.tail _ (.tail _ (.head _)))))))) | exact .tail _ (.tail _ (.tail _ (.tail _ (.tail _ (.tail _ (.tail _ (.tail _ (.tail _ (.head _))))))))) | exact .tail _ (.tail _ (.tail _ (.tail _ (.tail _ (.tail _ (.tail _ (.tail _ (.tail _ (.tail _ (.head _)))))))))) | exact .tail _ (.tail _ (.tail _ (.tail _ (.tail _ (.tail _ (.tail _ (.tail _ (.tail _ (.tail _ (.tail _ (.head _))))))))))) | apply And.intro))
  · have h := of_decide_eq_false h
    obtain rfl : i = 8 := by omega
    rw [rkN_step]
    refine sw_exit ?_
    refine sp_then_exit ?_
    refine sp_loop_exit ?_
    refine sp_block_exit ?_
    refine sp_then ?_
    refine sw_seq ?_
    refine sw_region ?_
    refine r_move (k := ?_)
    refine r_assign (k := ?_)
    refine sl_nil ?_
    refine sp_then ?_
    refine sw_ret ?_
    refine sp_retv rfl rfl (.tmp rfl) rfl rfl ⟨rfl, rfl, rfl⟩ (by simp) rfl (by simp)

theorem partsV_at (ps : List BS) (i : Nat) (h : i < ps.length) : (partsV ps)[i * 1]? = some ps[i].v := by simp [partsV, h]
def crc0 : UInt64 := UInt64.ofNat 18446744073709551615

theorem c_r1sum (G : Res) (ba : Option Addr) (cap : Nat) (ps : List BS) (hok : ∀ p ∈ ps, p.ok) (hn : ps.length ≤ maxLen) : Ctr Tryd.prog G 61 [.slice ba ps.length cap] [] [Res.mem ba (partsV ps), Res.all ps BS.res] (ret1 (v64 (sum (flat ps)))) := by
  have hn' : ps.length ≤ 9223372036854775807 := hn
  have hpl : (partsV ps).length = ps.length := List.length_map _
  refine Ctr.intro Tryd.func61 (by kernel_rfl) rfl Tryd.ntmps61 rfl rfl rfl fun w X => ?_
  refine sw_seq ?_
  refine sw_region ?_
  refine r_assign (k := ?_)
  refine sl_nil ?_
  refine sp_then ?_
  refine sw_seq ?_
  refine sw_region ?_
  refine r_assign (k := ?_)
  refine sl_nil ?_
  refine sp_then ?_
  refine sw_seq ?_
  refine sw_seq ?_
  refine sw_region ?_
  refine r_assign (k := ?_)
  refine sl_nil ?_
  refine sp_then ?_
  refine sw_block ?_
  refine sw_loop (ι := { i : Nat // i ≤ ps.length }) (fun i => [(0, .slice ba ps.length cap), (3, v64 ((flat (ps.take i.1)).foldl step crc0)), (4, vi (i.1 : Int))]) (fun _ => []) (fun _ => [Res.mem ba (partsV ps), Res.all ps BS.res]) (fun _ => []) (fun i => ps.length - i.1) ⟨0, by omega⟩ ?_ fun i => ?_
  · exact Ent.mk' (by repeat' (first | trivial | exact rfl | apply And.intro)) (by repeat' (first | trivial | exact .head _ | exact .tail _ (.head _) | exact .tail _ (.tail _ (.head _)) | exact .tail _ (.tail _ (.tail _ (.head _))) | exact .tail _ (.tail _ (.tail _ (.tail _ (.head _)))) | exact .tail _ (.tail _ (.tail _ (.tail _ (.tail _ (.head _))))) | exact .tail _ (.tail _ (.tail _ (.tail _ (.tail _ (.tail _ (.head _)))))) | exact .tail _ (.tail _ (.tail _ (.tail _ (.tail _ (.tail _ (.tail _ (.head _))))))) | exact .tail _ (.tail _ (.tail _ (.tail _ (.tail _ (.tail _ (.tail _ (.tail _ (.head _)))))))) | exact .tail _ (.tail _ (.tail _ (.tail _ (.tail _ (.tail _ (.tail _ (.tail _ (.tail _ (.head _))))))))) | exact .tail _ (.tail _ (.tail _ (.tail _ (.tail _ (.tail _ (.tail _ (.tail _ (.tail _ (.tail _ (.head _)))))))))) | exact .tail _ (.tail _ (.tail _ (.tail _ (.tail _ (.tail _ (.tail _ (.tail _ (.tail _ (.tail _ (.tail _ (.head _))))))))))) | apply And.intro))
  obtain ⟨i, hi⟩ := i
  dsimp only
  refine sw_seq ?_
  refine sw_seq ?_
  refine sw_region ?_
  refine r_move (k := ?_)
  refine r_move (k := ?_)
  refine r_len (k := ?_)
  refine r_lss (k := ?_)
  refine sl_nil ?_
  refine sp_then ?_
  refine sw_cond rfl (fun h => ?_) (fun h => ?_)
  · have h := of_decide_eq_true h
    have hi' : i < ps.length := by omega
    have hpi := hok ps[i] (List.getElem_mem hi')
    have hpl' : ps[i].xs.length ≤ 9223372036854775807 := Nat.le_trans hpi.1 hpi.2
    refine sw_skip ?_
    refine sp_then ?_
    refine sw_seq ?_
    refine sw_block ?_
    refine sw_seq ?_
    refine sw_region ?_
    refine r_assign (k := ?_)
    refine sl_nil ?_
    refine sp_then ?_
    refine sw_block ?_
    refine w_have (φ := ps[i].res) (fun V w hw => hw _ (.tail _ (.head _)) _ (List.getElem_mem hi')) ?_
    refine sw_loop (ι := { k : Nat // k ≤ ps[i].xs.length }) (fun k => [(0, .slice ba ps.length cap), (3, v64 (((ps[i].xs).take k.1).foldl step ((flat (ps.take i)).foldl step crc0))), (4, vi (i : Int)), (5, vi (k.1 : Int))]) (fun _ => []) (fun _ => [ps[i].res, Res.mem ba (partsV ps), Res.all ps BS.res]) (fun _ => []) (fun k => ps[i].xs.length - k.1) ⟨0, by omega⟩ ?_ fun k => ?_
    · exact Ent.mk' (by repeat' (first | trivial | exact rfl | apply And.intro)) (by repeat' (first | trivial | exact .head _ | exact .tail _ (.head _) | exact .tail _ (.tail _ (.head _)) | exact .tail _ (.tail _ (.tail _ (.head _))) | exact .tail _ (.tail _ (.tail _ (.tail _ (.head _)))) | exact .tail _ (.tail _ (.tail _ (.tail _ (.tail _ (.head _))))) | exact .tail _ (.tail _ (.tail _ (.tail _ (.tail _ (.tail _ (.head _)))))) | exact .tail _ (.tail _ (.tail _ (.tail _ (.tail _ (.tail _ (.tail _ (.head _))))))) | exact .tail _ (.tail _ (.tail _ (.tail _ (.tail _ (.tail _ (.tail _ (.tail _ (.head _)))))))) | exact .tail _ (.tail _ (.tail _ (.tail _ (.tail _ (.tail _ (.tail _ (.tail _ (.tail _ (.head _))))))))) | exact .tail _ (.tail _ (.tail _ (.tail _ (.tail _ (.tail _ (.tail _ (.tail _ (.tail _ (.tail _ (.head _)))))))))) | exact .tail _ (.tail _ (.tail _ (.tail _ (.tail _ (.tail _ (.tail _ (.tail _ (.tail _ (.tail _ (.tail _ (.head _))))))))))) | apply And.intro))
    obtain ⟨k, hk⟩ := k
    dsimp only
    refine sw_seq ?_
    refine sw_seq ?_
    refine sw_region ?_
    refine r_move (k := ?_)
    refine r_move (k := ?_)
    refine r_move (k := ?_)
    refine r_idx (k := ?_)
    refine r_load_mem1 (v := ps[i].v) (by exact tz rfl) (by exact rfl) (.tail _ (.head _)) (partsV_at ps i hi') (by exact rfl) ?_
    refine r_len (k := ?_)
    refine r_lss (k := ?_)
    refine sl_nil ?_
    refine sp_then ?_
    refine sw_cond rfl (fun h1 => ?_) (fun h1 => ?_)
    · have h1 := of_decide_eq_true h1
      have hk' : k < ps[i].xs.length := by omega
      refine sw_skip ?_
      refine sp_then ?_
      refine sw_seq ?_
      refine sw_block ?_
      refine sw_region ?_
      refine r_move (k := ?_)
      refine r_move (k := ?_)
      refine r_move (k := ?_)
      refine r_idx (k := ?_)
      refine r_load_mem1 (v := ps[i].v) (by exact tz rfl) (by exact rfl) (.tail _ (.head _)) (partsV_at ps i hi') (by exact rfl) ?_
      refine r_move (k := ?_)
      refine r_idx (k := ?_)
      refine r_load_mem1 (cs := bv ps[i].xs) (v := v8 (ps[i].xs[k])) (by exact tz rfl) (by exact rfl) (.head _) (by rw [Nat.mul_one]; exact bv_get _ _ hk') (by exact rfl) ?_
      refine r_call1 (c_r1step G _ _) (by exact rfl) (by exact rfl) (by exact rfl) (by simp) (by exact rfl) ?_
      refine r_assign (k := ?_)
      refine sl_nil ?_
      refine sp_block ?_
      refine sp_then ?_
      refine sw_region ?_
      refine r_move (k := ?_)
      refine r_add64 (k := ?_)
      refine r_assign (k := ?_)
      refine sl_nil ?_
      refine sp_re (t := 3) (v' := v64 (((ps[i].xs).take (k + 1)).foldl step ((flat (ps.take i)).foldl step crc0))) rfl (by rw [List.take_succ_eq_append_getElem hk', List.foldl_append]; rfl) ?_
      refine sp_loop (ι := { k : Nat // k ≤ ps[i].xs.length }) ⟨k + 1, by omega⟩ ?_ ?_
      · dsimp only; omega
      · exact Ent.mk' (by repeat' (first | trivial | exact rfl | apply And.intro)) (by repeat' (first | trivial | exact .head _ | exact .tail _ (.head _) | exact .tail _ (.tail _ (.head _)) | exact .tail _ (.tail _ (.tail _ (.head _))) | exact .tail _ (.tail _ (.tail _ (.tail _ (.head _)))) | exact .tail _ (.tail _ (.tail _ (.tail _ (.tail _ (.head _))))) | exact .tail _ (.tail _ (.tail _ (.tail _ (.tail _ (.tail _ (.head _)))))) | exact .tail _ (.tail _ (.tail _ (.tail _ (.tail _ (.tail _ (.tail _ (.head _))))))) | exact .tail _ (.tail _ (.tail _ (.tail _ (.tail _ (.tail _ (.tail _ (.tail _ (.head _)))))))) | exact .tail _ (.tail _ (.tail _ (.tail _ (.tail _ (.tail _ (.tail _ (.tail _ (.tail _ (.head _))))))))) | exact .tail _ (.tail _ (.tail _ (.tail _ (.tail _ (.tail _ (.tail _ (.tail _ (.tail _ (.tail _ (.head _)))))))))) | exact .tail _ (.tail _ (.tail _ (.tail _ (.tail _ (.tail _ (.tail _ (.tail _ (.tail _ (.tail _ (.tail _ (.head _))))))))))) | apply And.intro))
    · have h1 := of_decide_eq_false h1
      obtain rfl : k = ps[i].xs.length := by omega
      refine sw_exit ?_
      refine sp_then_exit ?_
      refine sp_loop_exit ?_
      refine sp_block_exit ?_
      refine sp_block ?_
      refine sp_then ?_
      refine sw_region ?_
      refine r_move (k := ?_)
      refine r_add64 (k := ?_)
      refine r_assign (k := ?_)
      refine sl_nil ?_
      refine sp_re (t := 3) (v' := v64 ((flat (ps.take (i + 1))).foldl step crc0)) rfl (by rw [flat_take ps i hi', List.foldl_append, List.take_length]) ?_
      refine sp_loop (ι := { i : Nat // i ≤ ps.length }) ⟨i + 1, by omega⟩ ?_ ?_
      · dsimp only; omega
      · exact Ent.mk' (by repeat' (first | trivial | exact rfl | apply And.intro)) (by repeat' (first | trivial | exact .head _ | exact .tail _ (.head _) | exact .tail _ (.tail _ (.head _)) | exact .tail _ (.tail _ (.tail _ (.head _))) | exact .tail _ (.tail _ (.tail _ (.tail _ (.head _)))) | exact .tail _ (.tail _ (.tail _ (.tail _ (.tail _ (.head _))))) | exact .tail _ (.tail _ (.tail _ (.tail _ (.tail _ (.tail _ (.head _)))))) | exact .tail _ (.tail _ (.tail _ (.tail _ (.tail _ (.tail _ (.tail _ (.head _))))))) | exact .tail _ (.tail _ (.tail _ (.tail _ (.tail _ (.tail _ (.tail _ (.tail _ (.head _)))))))) | exact .tail _ (.tail _ (.tail _ (.tail _ (.tail _ (.tail _ (.tail _ (.tail _ (.tail _ (.head _))))))))) | exact .tail _ (.tail _ (.tail _ (.tail _ (.tail _ (.tail _ (.tail _ (.tail _ (.tail _ (.tail _ (.head _)))))))))) | exact .tail _ (.tail _ (.tail _ (.tail _ (.tail _ (.tail _ (.tail _ (.tail _ (.tail _ (.tail _ (.tail _ (.head _))))))))))) | apply And.intro))
  · have h := of_decide_eq_false h
    obtain rfl : i = ps.length := by omega
    rw [List.take_length]
    refine sw_exit ?_
    refine sp_then_exit ?_
    refine sp_loop_exit ?_
    refine sp_block_exit ?_
    refine sp_then ?_
    refine sw_seq ?_
    refine sw_region ?_
    refine r_move (k := ?_)
    refine r_not64 (k := ?_)
    refine r_assign (k := ?_)
    refine sl_nil ?_
    refine sp_then ?_
    refine sw_ret ?_
    refine sp_retv rfl rfl (.tmp rfl) rfl rfl ⟨rfl, rfl, rfl⟩ (by simp) rfl (by simp)
end Go.Proofs.YtjahiohlekdhoaaDoor
