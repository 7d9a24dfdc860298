/-
  The walks of the document's pack and pointers once more: what is put is the caller's own row.
-/
import Derived.Test.YtjahiohlekdhoaaDoorRef9
namespace Go.Proofs.YtjahiohlekdhoaaDoor
open Go
set_option maxHeartbeats 4000000
set_option maxRecDepth 4000
attribute [local irreducible] SW SL SP RA Then FQ IQ LoopQ RQ AQ NX CutQ Exit.noGoto

theorem c_r2putR (G : Res) (s : BS) (n : UInt64) (w : Nat) (h1 : 1 ≤ w) (h8 : w ≤ 8) (hl : s.xs.length + w ≤ 140737488355328) : Ctr Tryd.prog G 57 [s.v, v64 n, vi (w : Int)] [] [s.res] (retR 5 (s.xs ++ le w n)) := by
  refine Ctr.intro Tryd.func57 (by kernel_rfl) rfl Tryd.ntmps57 rfl rfl rfl fun w' X => ?_
  refine sw_seq ?_
  refine sw_region ?_
  refine r_assign (k := ?_)
  refine sl_nil ?_
  refine sp_then ?_
  refine sw_seq ?_
  refine sw_region ?_
  refine r_litB (xs := []) (bs := []) (by exact tl rfl) (by exact z5) (by exact rfl) (by exact rfl) (by exact rfl) (by exact rfl) (by exact rfl) fun v _ _ => ?_
  refine r_move (k := ?_)
  refine r_appendB (xs := []) (s := s) (by exact tl rfl) (by exact z5) (by exact rfl) (by exact rfl) (by first | exact .head _ | exact .tail _ (.head _) | exact .tail _ (.tail _ (.head _)) | exact .tail _ (.tail _ (.tail _ (.head _))) | exact .tail _ (.tail _ (.tail _ (.tail _ (.head _)))) | exact .tail _ (.tail _ (.tail _ (.tail _ (.tail _ (.head _))))) | exact .tail _ (.tail _ (.tail _ (.tail _ (.tail _ (.tail _ (.head _)))))) | exact .tail _ (.tail _ (.tail _ (.tail _ (.tail _ (.tail _ (.tail _ (.head _))))))) | exact .tail _ (.tail _ (.tail _ (.tail _ (.tail _ (.tail _ (.tail _ (.tail _ (.head _)))))))) | exact .tail _ (.tail _ (.tail _ (.tail _ (.tail _ (.tail _ (.tail _ (.tail _ (.tail _ (.head _))))))))) | exact .tail _ (.tail _ (.tail _ (.tail _ (.tail _ (.tail _ (.tail _ (.tail _ (.tail _ (.tail _ (.head _)))))))))) | exact .tail _ (.tail _ (.tail _ (.tail _ (.tail _ (.tail _ (.tail _ (.tail _ (.tail _ (.tail _ (.tail _ (.head _)))))))))))) (by simp; omega) (by exact rfl) fun v1 hv1 hv2 => ?_
  refine r_assign (k := ?_)
  refine sl_nil ?_
  refine sp_then ?_
  refine sw_seq ?_
  refine sw_seq ?_
  refine sw_region ?_
  refine r_assign (k := ?_)
  refine sl_nil ?_
  refine sp_then ?_
  refine sw_block ?_
  refine sw_loop (ι := { p : Nat × Value // p.1 ≤ w ∧ p.2.cells = #[p.2] ∧ p.2.oneCell' = true }) (fun p => [(1, v64 n), (2, vi (w : Int)), (7, p.1.2), (8, vi (p.1.1 : Int))]) (fun p => [.row p.1.2 (s.xs ++ (le w n).take p.1.1).length (bv (s.xs ++ (le w n).take p.1.1)) 5 1]) (fun _ => []) (fun _ => []) (fun p => w - p.1.1) ⟨(0, v1), by omega, hv1, hv2⟩ ?_ fun i => ?_
  · have e : s.xs ++ (le w n).take 0 = [] ++ s.xs := by simp
    dsimp only
    rw [e]
    exact Ent.mk' (by repeat' (first | trivial | exact rfl | apply And.intro)) (by repeat' (first | trivial | exact .head _ | exact .tail _ (.head _) | exact .tail _ (.tail _ (.head _)) | exact .tail _ (.tail _ (.tail _ (.head _))) | exact .tail _ (.tail _ (.tail _ (.tail _ (.head _)))) | exact .tail _ (.tail _ (.tail _ (.tail _ (.tail _ (.head _))))) | exact .tail _ (.tail _ (.tail _ (.tail _ (.tail _ (.tail _ (.head _)))))) | exact .tail _ (.tail _ (.tail _ (.tail _ (.tail _ (.tail _ (.tail _ (.head _))))))) | exact .tail _ (.tail _ (.tail _ (.tail _ (.tail _ (.tail _ (.tail _ (.tail _ (.head _)))))))) | exact .tail _ (.tail _ (.tail _ (.tail _ (.tail _ (.tail _ (.tail _ (.tail _ (.tail _ (.head _))))))))) | exact .tail _ (.tail _ (.tail _ (.tail _ (.tail _ (.tail _ (.tail _ (.tail _ (.tail _ (.tail _ (.head _)))))))))) | exact .tail _ (.tail _ (.tail _ (.tail _ (.tail _ (.tail _ (.tail _ (.tail _ (.tail _ (.tail _ (.tail _ (.head _))))))))))) | apply And.intro))
  obtain ⟨⟨i, v2⟩, hi, hv3, hv4⟩ := i
  dsimp only at hi hv3 hv4 ⊢
  refine sw_seq ?_
  refine sw_seq ?_
  refine sw_region ?_
  refine r_move (k := ?_)
  refine r_move (k := ?_)
  refine r_call1 (c_r2wide G w h1 h8) (by exact rfl) (by exact rfl) (by exact rfl) (by simp) (by exact rfl) ?_
  refine r_lss (k := ?_)
  refine sl_nil ?_
  refine sp_then ?_
  refine sw_cond rfl (fun h => ?_) (fun h => ?_)
  · have h := of_decide_eq_true h
    have hiw : i < w := by omega
    refine sw_skip ?_
    refine sp_then ?_
    refine sw_seq ?_
    refine sw_block ?_
    refine sw_region ?_
    refine r_move (k := ?_)
    refine r_move (k := ?_)
    refine r_move (k := ?_)
    refine r_mulI (k := ?_)
    refine r_re (t := 21) (v' := vi ((8 * i : Nat) : Int)) rfl (by simp) ?_
    refine r_cv_i_u (k := ?_)
    refine r_shr64 (by exact rfl) (by exact rfl) (by simp [Nat.blt_eq]; omega) (by exact rfl) ?_
    refine r_cv_64_8 (k := ?_)
    refine r_litB (xs := [.tmp 24]) (bs := [(n >>> UInt64.ofNat (8 * i)).toUInt8]) (by exact tl rfl) (by exact z5) (by exact rfl) (by exact rfl) (by exact rfl) (by exact rfl) (by exact rfl) fun v3 _ _ => ?_
    refine o_rowB fun s1 hs1 hx1 e => ?_
    subst e
    refine r_appendB (xs := s.xs ++ (le w n).take i) (s := s1) (by exact tl rfl) (by exact z5) (by exact rfl) (by exact rfl) (by first | exact .head _ | exact .tail _ (.head _) | exact .tail _ (.tail _ (.head _)) | exact .tail _ (.tail _ (.tail _ (.head _))) | exact .tail _ (.tail _ (.tail _ (.tail _ (.head _)))) | exact .tail _ (.tail _ (.tail _ (.tail _ (.tail _ (.head _))))) | exact .tail _ (.tail _ (.tail _ (.tail _ (.tail _ (.tail _ (.head _)))))) | exact .tail _ (.tail _ (.tail _ (.tail _ (.tail _ (.tail _ (.tail _ (.head _))))))) | exact .tail _ (.tail _ (.tail _ (.tail _ (.tail _ (.tail _ (.tail _ (.tail _ (.head _)))))))) | exact .tail _ (.tail _ (.tail _ (.tail _ (.tail _ (.tail _ (.tail _ (.tail _ (.tail _ (.head _))))))))) | exact .tail _ (.tail _ (.tail _ (.tail _ (.tail _ (.tail _ (.tail _ (.tail _ (.tail _ (.tail _ (.head _)))))))))) | exact .tail _ (.tail _ (.tail _ (.tail _ (.tail _ (.tail _ (.tail _ (.tail _ (.tail _ (.tail _ (.tail _ (.head _)))))))))))) (by rw [hx1]; simp [le_length]; omega) (by exact rfl) fun v4 hv5 hv6 => ?_
    rw [hx1, List.append_assoc, ← le_take w i n hiw h8]
    refine r_assign (k := ?_)
    refine sl_nil ?_
    refine sp_block ?_
    refine sp_then ?_
    refine sw_region ?_
    refine r_move (k := ?_)
    refine r_add64 (k := ?_)
    refine r_assign (k := ?_)
    refine sl_nil ?_
    refine sp_loop (ι := { p : Nat × Value // p.1 ≤ w ∧ p.2.cells = #[p.2] ∧ p.2.oneCell' = true }) ⟨(i + 1, v4), by dsimp only; omega, hv5, hv6⟩ ?_ ?_
    · dsimp only; omega
    · exact Ent.mk' (by repeat' (first | trivial | exact rfl | apply And.intro)) (by repeat' (first | trivial | exact .head _ | exact .tail _ (.head _) | exact .tail _ (.tail _ (.head _)) | exact .tail _ (.tail _ (.tail _ (.head _))) | exact .tail _ (.tail _ (.tail _ (.tail _ (.head _)))) | exact .tail _ (.tail _ (.tail _ (.tail _ (.tail _ (.head _))))) | exact .tail _ (.tail _ (.tail _ (.tail _ (.tail _ (.tail _ (.head _)))))) | exact .tail _ (.tail _ (.tail _ (.tail _ (.tail _ (.tail _ (.tail _ (.head _))))))) | exact .tail _ (.tail _ (.tail _ (.tail _ (.tail _ (.tail _ (.tail _ (.tail _ (.head _)))))))) | exact .tail _ (.tail _ (.tail _ (.tail _ (.tail _ (.tail _ (.tail _ (.tail _ (.tail _ (.head _))))))))) | exact .tail _ (.tail _ (.tail _ (.tail _ (.tail _ (.tail _ (.tail _ (.tail _ (.tail _ (.tail _ (.head _)))))))))) | exact .tail _ (.tail _ (.tail _ (.tail _ (.tail _ (.tail _ (.tail _ (.tail _ (.tail _ (.tail _ (.tail _ (.head _))))))))))) | apply And.intro))
  · have h := of_decide_eq_false h
    obtain rfl : i = w := by omega
    rw [List.take_of_length_le (by rw [le_length]; exact Nat.le_refl _)]
    refine sw_exit ?_
    refine sp_then_exit ?_
    refine sp_loop_exit ?_
    refine sp_block_exit ?_
    refine sp_then ?_
    refine sw_seq ?_
    refine sw_region ?_
    refine r_move (k := ?_)
    refine r_assign (k := ?_)
    refine sl_nil ?_
    refine sp_then ?_
    refine sw_ret ?_
    refine sp_retv rfl rfl (.tmp rfl) rfl rfl ⟨hv3, hv4, rfl, rfl⟩ (List.Sublist.refl _) rfl (by simp)

theorem c_r5putR (G : Res) (s : BS) (x : PtrV) (hl : s.xs.length ≤ 1099511627776) : Ctr Tryd.prog G 58 [s.v, x.v] [] [s.res] (retR 5 (s.xs ++ x.bytes)) := by
  refine Ctr.intro Tryd.func58 (by kernel_rfl) rfl Tryd.ntmps58 rfl rfl rfl fun w X => ?_
  refine sw_seq ?_
  refine sw_region ?_
  refine r_box (k := fun bx => ?_)
  refine r_assign (k := ?_)
  refine sl_nil ?_
  refine sp_then ?_
  refine sw_seq ?_
  refine sw_region ?_
  refine r_move (k := ?_)
  refine r_fieldAddr (k := ?_)
  refine r_load_one (k := ?_)
  refine r_cv_8_64 (k := ?_)
  refine r_callB (c_r2put G s x.kind.toUInt64 1 (by decide) (by decide) (by omega)) (by exact rfl) (by exact rfl) (by exact rfl) (by simp) (by exact rfl) fun s1 _ h1 => ?_
  have l1 : s1.xs.length = s.xs.length + 1 := by rw [h1]; simp [le_length]
  refine r_assign (k := ?_)
  refine sl_nil ?_
  refine sp_then ?_
  refine sw_seq ?_
  refine sw_region ?_
  refine r_move (k := ?_)
  refine r_fieldAddr (k := ?_)
  refine r_idx_arr (k := ?_)
  refine r_load_one (k := ?_)
  refine r_cv_16_64 (k := ?_)
  refine r_callB (c_r2put G s1 x.a0.toUInt64 2 (by decide) (by decide) (by omega)) (by exact rfl) (by exact rfl) (by exact rfl) (by simp) (by exact rfl) fun s2 _ h2 => ?_
  have l2 : s2.xs.length = s.xs.length + 3 := by rw [h2]; simp [le_length, l1]
  refine r_assign (k := ?_)
  refine sl_nil ?_
  refine sp_then ?_
  refine sw_seq ?_
  refine sw_region ?_
  refine r_move (k := ?_)
  refine r_fieldAddr (k := ?_)
  refine r_idx_arr (k := ?_)
  refine r_load_one (k := ?_)
  refine r_cv_16_64 (k := ?_)
  refine r_callB (c_r2put G s2 x.a1.toUInt64 2 (by decide) (by decide) (by omega)) (by exact rfl) (by exact rfl) (by exact rfl) (by simp) (by exact rfl) fun s3 _ h3 => ?_
  have l3 : s3.xs.length = s.xs.length + 5 := by rw [h3]; simp [le_length, l2]
  refine r_assign (k := ?_)
  refine sl_nil ?_
  refine sp_then ?_
  refine sw_seq ?_
  refine sw_region ?_
  refine r_move (k := ?_)
  refine r_fieldAddr (k := ?_)
  refine r_load_one (k := ?_)
  refine r_cv_32_64 (k := ?_)
  refine r_callB (c_r2put G s3 x.birth.toUInt64 4 (by decide) (by decide) (by omega)) (by exact rfl) (by exact rfl) (by exact rfl) (by simp) (by exact rfl) fun s4 _ h4 => ?_
  have l4 : s4.xs.length = s.xs.length + 9 := by rw [h4]; simp [le_length, l3]
  refine r_assign (k := ?_)
  refine sl_nil ?_
  refine sp_then ?_
  refine sw_seq ?_
  refine sw_region ?_
  refine r_move (k := ?_)
  refine r_fieldAddr (k := ?_)
  refine r_load_one (k := ?_)
  refine r_callR (Bp := []) (Br := [.box bx x.cs 27]) (c_r2putR G s4 x.sum 8 (by decide) (by decide) (by omega)) (by exact rfl) (by exact rfl) (by exact rfl) (by simp) (by exact rfl) fun v5 hv1 hv2 => ?_
  have e : s4.xs ++ le 8 x.sum = s.xs ++ x.bytes := by
    rw [h4, h3, h2, h1]
    simp [PtrV.bytes, PtrV.nums, packed]
  rw [e]
  refine r_assign (k := ?_)
  refine sl_nil ?_
  refine sp_then ?_
  refine sw_ret ?_
  refine sp_retv rfl rfl (.tmp rfl) rfl rfl ⟨hv1, hv2, rfl, rfl⟩ (.cons_cons _ (List.nil_sublist _)) rfl (by simp)

end Go.Proofs.YtjahiohlekdhoaaDoor
