/-
  The walks of package anchor: its numbers, the newest one.
-/
import Derived.Test.YtjahiohlekdhoaaDoorAnchor
namespace Go.Proofs.YtjahiohlekdhoaaDoor
open Go
set_option maxHeartbeats 4000000
set_option maxRecDepth 4000
attribute [local irreducible] SW SL SP RA Then FQ IQ LoopQ RQ AQ NX CutQ Exit.noGoto

def AncV.nums (a : AncV) : List (UInt64 × Nat) := [(a.tx.toUInt64, 4), (a.size.toUInt64, 2), (0, 0), (a.count.toUInt64, 4), (a.live.toUInt64, 1), (a.both.toUInt64, 4), (a.mark.on.toUInt64, 1), (a.mark.disk.toUInt64, 1), (a.mark.since.toUInt64, 4)]
def nElt (p : UInt64 × Nat) (vs : List Value) : Res := Res.pure (vs = [v64 p.1, vi (p.2 : Int)])
def numsV (l : List (UInt64 × Nat)) : List Value := l.map fun p => v64 p.1
def widthsV (l : List (UInt64 × Nat)) : List Value := l.map fun p => vi (p.2 : Int)

theorem c_numbers (G : Res) (a : AncV) : Ctr Tryd.prog G 45 [a.v] [] [] (retF fun v Φ' => ∃ b1 b3, v = .func (.func 81) #[] #[.pointer (some ⟨b1, 0, none⟩), .pointer (some ⟨b3, 0, none⟩)] ∧ Φ' = [Res.mem (some ⟨b1, 0, none⟩) a.cs, Res.mem (some ⟨b3, 0, none⟩) (widthsV a.nums)]) := by
  refine Ctr.intro Tryd.func45 (by kernel_rfl) rfl Tryd.ntmps45 rfl rfl rfl fun w X => ?_
  refine sw_seq ?_
  refine sw_region ?_
  refine r_box (k := fun bx => ?_)
  refine r_assign (k := ?_)
  refine sl_nil ?_
  refine sp_then ?_
  refine sw_seq ?_
  refine sw_region ?_
  refine r_buildP (widthsV a.nums) (parts := [(0, .const (vi 4)), (1, .const (vi 2)), (2, .const (vi 0)), (3, .const (vi 4)), (4, .const (vi 1)), (5, .const (vi 4)), (6, .const (vi 1)), (7, .const (vi 1)), (8, .const (vi 4))]) (by exact rfl) (by kernel_rfl) (by exact rfl) ?_
  refine r_alloc (by exact z119) (by exact rfl) (by exact rfl) fun b3 => ?_
  refine r_store_all (k := ?_)
  refine sl_nil ?_
  refine sp_then ?_
  refine sw_seq ?_
  refine sw_region ?_
  refine r_clos (k := ?_)
  refine r_assign (k := ?_)
  refine sl_nil ?_
  refine sp_then ?_
  refine sw_ret ?_
  refine sp_freeze ?_
  refine sp_freeze ?_
  refine sp_retv rfl rfl (.tmp rfl) rfl rfl ⟨rfl, _, _, rfl, rfl⟩ (by simp) rfl (by simp)

theorem i_numbers (G : Res) (b1 b3 : Nat) (a : AncV) : ICtr Tryd.prog G 81 [.pointer (some ⟨b1, 0, none⟩), .pointer (some ⟨b3, 0, none⟩)] [] [Res.mem (some ⟨b1, 0, none⟩) a.cs, Res.mem (some ⟨b3, 0, none⟩) (widthsV a.nums)] nElt a.nums := by
  refine ICtr.intro Tryd.func81 (by kernel_rfl) rfl Tryd.ntmps81 rfl rfl (fun _ => rfl) fun σ J Y go A l s0 w' X M hgo hA hY => ?_
  have hnl : a.nums.length = 9 := rfl
  refine sw_seq ?_
  refine sw_region ?_
  refine r_fieldAddr (k := ?_)
  refine r_load_fr1 (k := ?_)
  refine r_cv_32_64 (k := ?_)
  refine r_fieldAddr (k := ?_)
  refine r_load_fr1 (k := ?_)
  refine r_cv_16_64 (k := ?_)
  refine r_fieldAddr (k := ?_)
  refine r_load_fr1 (k := ?_)
  refine r_cv_32_64 (k := ?_)
  refine r_fieldAddr (k := ?_)
  refine r_load_fr1 (k := ?_)
  refine r_cv_8_64 (k := ?_)
  refine r_fieldAddr (k := ?_)
  refine r_load_fr1 (k := ?_)
  refine r_cv_32_64 (k := ?_)
  refine r_fieldAddr (k := ?_)
  refine r_fieldAddr (k := ?_)
  refine r_load_fr1 (k := ?_)
  refine r_cv_8_64 (k := ?_)
  refine r_fieldAddr (k := ?_)
  refine r_fieldAddr (k := ?_)
  refine r_load_fr1 (k := ?_)
  refine r_cv_8_64 (k := ?_)
  refine r_fieldAddr (k := ?_)
  refine r_fieldAddr (k := ?_)
  refine r_load_fr1 (k := ?_)
  refine r_cv_32_64 (k := ?_)
  refine r_buildP (numsV a.nums) (parts := [(0, .tmp 8), (1, .tmp 11), (2, .const (.int .u64 0)), (3, .tmp 14), (4, .tmp 17), (5, .tmp 20), (6, .tmp 24), (7, .tmp 28), (8, .tmp 32)]) (by exact rfl) (by kernel_rfl) (by exact rfl) ?_
  refine r_move (k := ?_)
  refine sl_nil ?_
  refine sp_then ?_
  refine sw_block ?_
  refine sw_loop (ι := { p : Nat × σ // p.1 ≤ 9 ∧ At Y go A s0 a.nums p.2 (a.nums.drop p.1) })
    (fun p => [(0, yv l), (2, .pointer (some ⟨b3, 0, none⟩)), (33, .agg (numsV a.nums).toArray), (34, vi (p.1.1 : Int))]) (fun _ => []) (fun _ => [Res.mem (some ⟨b3, 0, none⟩) (widthsV a.nums)]) (fun p => [J p.1.2]) (fun p => 9 - p.1.1) ⟨(0, s0), by simp, .start hgo hA⟩ ?_ fun i => ?_
  · exact Ent.mk' (by repeat' (first | trivial | exact rfl | apply And.intro)) (by repeat' (first | trivial | exact .head _ | exact .tail _ (.head _) | exact .tail _ (.tail _ (.head _)) | exact .tail _ (.tail _ (.tail _ (.head _))) | exact .tail _ (.tail _ (.tail _ (.tail _ (.head _)))) | exact .tail _ (.tail _ (.tail _ (.tail _ (.tail _ (.head _))))) | exact .tail _ (.tail _ (.tail _ (.tail _ (.tail _ (.tail _ (.head _)))))) | exact .tail _ (.tail _ (.tail _ (.tail _ (.tail _ (.tail _ (.tail _ (.head _))))))) | exact .tail _ (.tail _ (.tail _ (.tail _ (.tail _ (.tail _ (.tail _ (.tail _ (.head _)))))))) | exact .tail _ (.tail _ (.tail _ (.tail _ (.tail _ (.tail _ (.tail _ (.tail _ (.tail _ (.head _))))))))) | exact .tail _ (.tail _ (.tail _ (.tail _ (.tail _ (.tail _ (.tail _ (.tail _ (.tail _ (.tail _ (.head _)))))))))) | exact .tail _ (.tail _ (.tail _ (.tail _ (.tail _ (.tail _ (.tail _ (.tail _ (.tail _ (.tail _ (.tail _ (.head _))))))))))) | apply And.intro))
  obtain ⟨⟨i, s⟩, hi, hr⟩ := i
  dsimp only at hi hr ⊢
  refine sw_seq ?_
  refine sw_region ?_
  refine r_lss (k := ?_)
  refine sl_nil ?_
  refine sp_then ?_
  refine sw_seq ?_
  refine sw_cond rfl (fun h => ?_) (fun h => ?_)
  · have h := of_decide_eq_true h
    have hi' : i < a.nums.length := by omega
    have hr := hr.of (drop_cons a.nums i hi')
    refine sw_skip ?_
    refine sp_then ?_
    refine sw_seq ?_
    refine sw_block ?_
    refine sw_seq ?_
    refine sw_region ?_
    refine r_move (k := ?_)
    refine r_index (cs := numsV a.nums) (v := v64 a.nums[i].1) (by exact ta rfl) (by exact tz rfl) (by exact rfl) (by exact rfl) (by omega) (by omega) (by exact Int.toNat_natCast _) (by simp [numsV, hi']) (by exact rfl) ?_
    refine r_assign (k := ?_)
    refine r_assign (k := ?_)
    refine sl_nil ?_
    refine sp_then ?_
    refine sw_seq ?_
    refine sw_region ?_
    refine r_move (k := ?_)
    refine r_move (k := ?_)
    refine r_move (k := ?_)
    refine r_idx_arr (k := ?_)
    refine r_load_fr1 (v := vi (a.nums[i].2 : Int)) (by exact tz rfl) (by exact rfl) (by first | exact .head _ | exact .tail _ (.head _) | exact .tail _ (.tail _ (.head _)) | exact .tail _ (.tail _ (.tail _ (.head _))) | exact .tail _ (.tail _ (.tail _ (.tail _ (.head _)))) | exact .tail _ (.tail _ (.tail _ (.tail _ (.tail _ (.head _))))) | exact .tail _ (.tail _ (.tail _ (.tail _ (.tail _ (.tail _ (.head _)))))) | exact .tail _ (.tail _ (.tail _ (.tail _ (.tail _ (.tail _ (.tail _ (.head _))))))) | exact .tail _ (.tail _ (.tail _ (.tail _ (.tail _ (.tail _ (.tail _ (.tail _ (.head _)))))))) | exact .tail _ (.tail _ (.tail _ (.tail _ (.tail _ (.tail _ (.tail _ (.tail _ (.tail _ (.head _))))))))) | exact .tail _ (.tail _ (.tail _ (.tail _ (.tail _ (.tail _ (.tail _ (.tail _ (.tail _ (.tail _ (.head _)))))))))) | exact .tail _ (.tail _ (.tail _ (.tail _ (.tail _ (.tail _ (.tail _ (.tail _ (.tail _ (.tail _ (.tail _ (.head _)))))))))))) (by simp [widthsV, hi']) (by exact rfl) ?_
    refine r_yield hY hr.go' hr.give (by exact rfl) (by exact rfl) (el := a.nums[i]) (fun _ _ _ => rfl) (by exact rfl) ?_
    refine r_not (k := ?_)
    refine sl_nil ?_
    refine sp_then ?_
    cases hg : go (Y s a.nums[i])
    · refine swd_t (h := ?_)
      refine sw_ret ?_
      refine sp_block_ret ?_
      refine sp_then_ret ?_
      refine sp_loop_ret ?_
      refine sp_block_ret ?_
      refine sp_iret rfl rfl rfl ⟨hr.stop hg, rfl, rfl⟩ (by simp) rfl (by simp) rfl
    · refine swd_f (h := ?_)
      refine sw_skip ?_
      refine sp_block ?_
      refine sp_then ?_
      refine sw_region ?_
      refine r_add64 (k := ?_)
      refine r_move (k := ?_)
      refine sl_nil ?_
      refine sp_loop (ι := { p : Nat × σ // p.1 ≤ 9 ∧ At Y go A s0 a.nums p.2 (a.nums.drop p.1) }) ⟨(i + 1, Y s a.nums[i]), by dsimp only; omega, hr.next hg⟩ ?_ ?_
      · dsimp only; omega
      · exact Ent.mk' (by repeat' (first | trivial | exact rfl | apply And.intro)) (by repeat' (first | trivial | exact .head _ | exact .tail _ (.head _) | exact .tail _ (.tail _ (.head _)) | exact .tail _ (.tail _ (.tail _ (.head _))) | exact .tail _ (.tail _ (.tail _ (.tail _ (.head _)))) | exact .tail _ (.tail _ (.tail _ (.tail _ (.tail _ (.head _))))) | exact .tail _ (.tail _ (.tail _ (.tail _ (.tail _ (.tail _ (.head _)))))) | exact .tail _ (.tail _ (.tail _ (.tail _ (.tail _ (.tail _ (.tail _ (.head _))))))) | exact .tail _ (.tail _ (.tail _ (.tail _ (.tail _ (.tail _ (.tail _ (.tail _ (.head _)))))))) | exact .tail _ (.tail _ (.tail _ (.tail _ (.tail _ (.tail _ (.tail _ (.tail _ (.tail _ (.head _))))))))) | exact .tail _ (.tail _ (.tail _ (.tail _ (.tail _ (.tail _ (.tail _ (.tail _ (.tail _ (.tail _ (.head _)))))))))) | exact .tail _ (.tail _ (.tail _ (.tail _ (.tail _ (.tail _ (.tail _ (.tail _ (.tail _ (.tail _ (.tail _ (.head _))))))))))) | apply And.intro))
  · have h := of_decide_eq_false h
    obtain rfl : i = 9 := by omega
    have hr := hr.of (show a.nums.drop 9 = [] from rfl)
    refine sw_exit ?_
    refine sp_then_exit ?_
    refine sp_loop_exit ?_
    refine sp_block_exit ?_
    refine sp_inorm rfl rfl rfl ⟨hr.done, rfl, rfl⟩ (by simp) rfl (by simp) rfl
end Go.Proofs.YtjahiohlekdhoaaDoor
