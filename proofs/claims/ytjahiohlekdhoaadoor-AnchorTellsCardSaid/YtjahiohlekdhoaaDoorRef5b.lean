/-
  The walks of the document's pointers as bytes.
-/
import Derived.Test.YtjahiohlekdhoaaDoorRef5
namespace Go.Proofs.YtjahiohlekdhoaaDoor
open Go
set_option maxHeartbeats 4000000
set_option maxRecDepth 4000
attribute [local irreducible] SW SL SP RA Then FQ IQ LoopQ RQ AQ NX CutQ Exit.noGoto

theorem c_r5put (G : Res) (s : BS) (x : PtrV) (hl : s.xs.length ≤ 1099511627776) : Ctr Tryd.prog G 58 [s.v, x.v] [] [s.res] (retB (s.xs ++ x.bytes)) := by
  refine Ctr.intro Tryd.func58 (by kernel_rfl) rfl Tryd.ntmps58 rfl rfl rfl fun w X => ?_
  refine sw_seq ?_
  refine sw_region ?_
  refine r_box (k := fun bx => ?_)
  refine r_assign (k := ?_)
  refine sl_nil ?_
  refine sp_then ?_
  refine sw_seq ?_
  refine sw_region ?_
  refine r_move (k := ?_)
  refine r_fieldAddr (k := ?_)
  refine r_load_one (k := ?_)
  refine r_cv_8_64 (k := ?_)
  refine r_callB (c_r2put G s x.kind.toUInt64 1 (by decide) (by decide) (by omega)) (by exact rfl) (by exact rfl) (by exact rfl) (by simp) (by exact rfl) fun s1 _ h1 => ?_
  have l1 : s1.xs.length = s.xs.length + 1 := by rw [h1]; simp [le_length]
  refine r_assign (k := ?_)
  refine sl_nil ?_
  refine sp_then ?_
  refine sw_seq ?_
  refine sw_region ?_
  refine r_move (k := ?_)
  refine r_fieldAddr (k := ?_)
  refine r_idx_arr (k := ?_)
  refine r_load_one (k := ?_)
  refine r_cv_16_64 (k := ?_)
  refine r_callB (c_r2put G s1 x.a0.toUInt64 2 (by decide) (by decide) (by omega)) (by exact rfl) (by exact rfl) (by exact rfl) (by simp) (by exact rfl) fun s2 _ h2 => ?_
  have l2 : s2.xs.length = s.xs.length + 3 := by rw [h2]; simp [le_length, l1]
  refine r_assign (k := ?_)
  refine sl_nil ?_
  refine sp_then ?_
  refine sw_seq ?_
  refine sw_region ?_
  refine r_move (k := ?_)
  refine r_fieldAddr (k := ?_)
  refine r_idx_arr (k := ?_)
  refine r_load_one (k := ?_)
  refine r_cv_16_64 (k := ?_)
  refine r_callB (c_r2put G s2 x.a1.toUInt64 2 (by decide) (by decide) (by omega)) (by exact rfl) (by exact rfl) (by exact rfl) (by simp) (by exact rfl) fun s3 _ h3 => ?_
  have l3 : s3.xs.length = s.xs.length + 5 := by rw [h3]; simp [le_length, l2]
  refine r_assign (k := ?_)
  refine sl_nil ?_
  refine sp_then ?_
  refine sw_seq ?_
  refine sw_region ?_
  refine r_move (k := ?_)
  refine r_fieldAddr (k := ?_)
  refine r_load_one (k := ?_)
  refine r_cv_32_64 (k := ?_)
  refine r_callB (c_r2put G s3 x.birth.toUInt64 4 (by decide) (by decide) (by omega)) (by exact rfl) (by exact rfl) (by exact rfl) (by simp) (by exact rfl) fun s4 _ h4 => ?_
  have l4 : s4.xs.length = s.xs.length + 9 := by rw [h4]; simp [le_length, l3]
  refine r_assign (k := ?_)
  refine sl_nil ?_
  refine sp_then ?_
  refine sw_seq ?_
  refine sw_region ?_
  refine r_move (k := ?_)
  refine r_fieldAddr (k := ?_)
  refine r_load_one (k := ?_)
  refine r_callB (c_r2put G s4 x.sum 8 (by decide) (by decide) (by omega)) (by exact rfl) (by exact rfl) (by exact rfl) (by simp) (by exact rfl) fun s5 h5 hx5 => ?_
  refine r_assign (k := ?_)
  refine sl_nil ?_
  refine sp_then ?_
  refine sw_ret ?_
  refine sp_retv rfl rfl (.tmp rfl) rfl rfl ⟨rfl, s5, rfl, h5, ?_, rfl⟩ (by simp) rfl (by simp)
  rw [hx5, h4, h3, h2, h1]
  simp [PtrV.bytes, PtrV.nums, packed]

theorem c_r5take (s : BS) (hok : s.ok) (hl : 17 ≤ s.xs.length) : Ctr Tryd.prog GW 63 [s.v] [] [s.res] (retF fun v Φ' => ∃ r : BS, v = .tuple #[(ptake s.xs).v, r.v, vi 0] ∧ r.ok ∧ r.xs = s.xs.drop 17 ∧ Φ' = [r.res]) := by
  refine Ctr.intro Tryd.func63 (by kernel_rfl) rfl Tryd.ntmps63 rfl rfl rfl fun w X => ?_
  refine sw_seq ?_
  refine sw_region ?_
  refine r_alloc (by exact z27) (cs := PtrV.none.cs) (by exact rfl) (by exact rfl) fun b2 => ?_
  refine r_assign (k := ?_)
  refine r_assign (k := ?_)
  refine sl_nil ?_
  refine sp_then ?_
  refine sw_seq ?_
  refine sw_seq ?_
  refine sw_region ?_
  refine r_move (k := ?_)
  refine r_len (k := ?_)
  refine r_lss (k := ?_)
  refine sl_nil ?_
  refine sp_then ?_
  refine sw_cond rfl (fun h => ?_) (fun h => ?_)
  · have h := of_decide_eq_true h
    exact absurd h (by omega)
  refine sw_skip ?_
  refine sp_then ?_
  refine sw_seq ?_
  refine sw_region ?_
  refine r_alloc (by exact z121) (cs := pcells s.xs 0) (by exact rfl) (by exact rfl) fun b5 => ?_
  refine sl_nil ?_
  refine sp_then ?_
  refine sw_seq ?_
  refine sw_region ?_
  refine r_move (k := ?_)
  refine r_assign (k := ?_)
  refine sl_nil ?_
  refine sp_then ?_
  refine sw_seq ?_
  refine sw_region ?_
  refine r_buildP [vi 1, vi 2, vi 2, vi 4, vi 8] (parts := [(0, .const (.int .i64 1)), (1, .const (.int .i64 2)), (2, .const (.int .i64 2)), (3, .const (.int .i64 4)), (4, .const (.int .i64 8))]) (by exact rfl) (by kernel_rfl) (by exact rfl) ?_
  refine r_alloc (by exact z122) (cs := [vi 0, vi 0, vi 0, vi 0, vi 0]) (by exact rfl) (by exact rfl) fun b7 => ?_
  refine r_store_all (k := ?_)
  refine sl_nil ?_
  refine sp_then ?_
  refine sw_seq ?_
  refine sw_seq ?_
  refine sw_region ?_
  refine r_assign (k := ?_)
  refine sl_nil ?_
  refine sp_then ?_
  refine sw_block ?_
  refine sw_loop (ι := { p : Nat × BS // p.1 ≤ 5 ∧ p.2.ok ∧ p.2.xs = s.xs.drop (poff p.1) })
    (fun p => [(2, .pointer (some ⟨b2, 0, none⟩)), (5, .pointer (some ⟨b5, 0, none⟩)), (7, .pointer (some ⟨b7, 0, none⟩)), (6, p.1.2.v), (8, vi (p.1.1 : Int))]) (fun p => [.box b7 [vi 1, vi 2, vi 2, vi 4, vi 8] 122, .box b5 (pcells s.xs p.1.1) 121, .box b2 PtrV.none.cs 27]) (fun p => [p.1.2.res]) (fun _ => []) (fun p => 5 - p.1.1) ⟨(0, s), by omega, hok, rfl⟩ ?_ fun i => ?_
  · exact Ent.mk' (by repeat' (first | trivial | exact rfl | apply And.intro)) (by repeat' (first | trivial | exact .head _ | exact .tail _ (.head _) | exact .tail _ (.tail _ (.head _)) | exact .tail _ (.tail _ (.tail _ (.head _))) | exact .tail _ (.tail _ (.tail _ (.tail _ (.head _)))) | exact .tail _ (.tail _ (.tail _ (.tail _ (.tail _ (.head _))))) | exact .tail _ (.tail _ (.tail _ (.tail _ (.tail _ (.tail _ (.head _)))))) | exact .tail _ (.tail _ (.tail _ (.tail _ (.tail _ (.tail _ (.tail _ (.head _))))))) | exact .tail _ (.tail _ (.tail _ (.tail _ (.tail _ (.tail _ (.tail _ (.tail _ (.head _)))))))) | exact .tail _ (.tail _ (.tail _ (.tail _ (.tail _ (.tail _ (.tail _ (.tail _ (.tail _ (.head _))))))))) | exact .tail _ (.tail _ (.tail _ (.tail _ (.tail _ (.tail _ (.tail _ (.tail _ (.tail _ (.tail _ (.head _)))))))))) | exact .tail _ (.tail _ (.tail _ (.tail _ (.tail _ (.tail _ (.tail _ (.tail _ (.tail _ (.tail _ (.tail _ (.head _))))))))))) | apply And.intro))
  obtain ⟨⟨i, s'⟩, hi, hok', hx⟩ := i
  dsimp only at hi hok' hx ⊢
  have hsl : s'.xs.length = s.xs.length - poff i := by rw [hx]; simp
  refine sw_seq ?_
  refine sw_seq ?_
  refine sw_region ?_
  refine r_move (k := ?_)
  refine r_lss (k := ?_)
  refine sl_nil ?_
  refine sp_then ?_
  refine sw_cond rfl (fun h => ?_) (fun h => ?_)
  · have h := of_decide_eq_true h
    have hc : i = 0 ∨ i = 1 ∨ i = 2 ∨ i = 3 ∨ i = 4 := by omega
    rcases hc with rfl | rfl | rfl | rfl | rfl
    all_goals simp only [poff] at hsl hx
    focus
      refine sw_skip ?_
      refine sp_then ?_
      refine sw_seq ?_
      refine sw_block ?_
      refine sw_seq ?_
      refine sw_region ?_
      refine r_move (k := ?_)
      refine r_move (k := ?_)
      refine r_idx_arr (k := ?_)
      refine r_load_one (k := ?_)
    rotate_left 1
    focus
      refine sw_skip ?_
      refine sp_then ?_
      refine sw_seq ?_
      refine sw_block ?_
      refine sw_seq ?_
      refine sw_region ?_
      refine r_move (k := ?_)
      refine r_move (k := ?_)
      refine r_idx_arr (k := ?_)
      refine r_load_one (k := ?_)
    rotate_left 1
    focus
      refine sw_skip ?_
      refine sp_then ?_
      refine sw_seq ?_
      refine sw_block ?_
      refine sw_seq ?_
      refine sw_region ?_
      refine r_move (k := ?_)
      refine r_move (k := ?_)
      refine r_idx_arr (k := ?_)
      refine r_load_one (k := ?_)
    rotate_left 1
    focus
      refine sw_skip ?_
      refine sp_then ?_
      refine sw_seq ?_
      refine sw_block ?_
      refine sw_seq ?_
      refine sw_region ?_
      refine r_move (k := ?_)
      refine r_move (k := ?_)
      refine r_idx_arr (k := ?_)
      refine r_load_one (k := ?_)
    rotate_left 1
    focus
      refine sw_skip ?_
      refine sp_then ?_
      refine sw_seq ?_
      refine sw_block ?_
      refine sw_seq ?_
      refine sw_region ?_
      refine r_move (k := ?_)
      refine r_move (k := ?_)
      refine r_idx_arr (k := ?_)
      refine r_load_one (k := ?_)
    rotate_left 1
    · refine r_callF (c_r2take GW s' hok' 1 (by decide) (by decide) (by omega)) (by exact rfl) (by exact rfl) (by exact rfl) (by simp) (by exact rfl) ?_
      rintro _ _ ⟨r, rfl, hr, hxr, rfl⟩
      refine r_move (k := ?_)
      refine r_ext (k := ?_)
      refine r_ext (k := ?_)
      refine r_ext (k := ?_)
      refine r_assign (k := ?_)
      refine r_assign (k := ?_)
      refine r_assign (k := ?_)
      refine sl_nil ?_
      refine sp_then ?_
      refine sw_seq ?_
      refine sw_region ?_
      refine r_move (k := ?_)
      refine r_move (k := ?_)
      refine r_idx_arr (k := ?_)
      refine r_store1 (k := ?_)
      refine sl_nil ?_
      refine sp_then ?_
      refine sw_region ?_
      refine r_move (k := ?_)
      refine r_assign (k := ?_)
      refine sl_nil ?_
      refine sp_block ?_
      refine sp_then ?_
      refine sw_region ?_
      refine r_move (k := ?_)
      refine r_add64 (k := ?_)
      refine r_assign (k := ?_)
      refine sl_nil ?_
      refine sp_eqB (B' := [.box b7 [vi 1, vi 2, vi 2, vi 4, vi 8] 122, .box b5 (pcells s.xs 1) 121, .box b2 PtrV.none.cs 27]) (by rw [hx]; rfl) ?_
      refine sp_loop (ι := { p : Nat × BS // p.1 ≤ 5 ∧ p.2.ok ∧ p.2.xs = s.xs.drop (poff p.1) }) ⟨(1, r), by simp, hr, by rw [hxr, hx]; simp [poff]⟩ ?_ ?_
      · dsimp only; omega
      · exact Ent.mk' (by repeat' (first | trivial | exact rfl | apply And.intro)) (by repeat' (first | trivial | exact .head _ | exact .tail _ (.head _) | exact .tail _ (.tail _ (.head _)) | exact .tail _ (.tail _ (.tail _ (.head _))) | exact .tail _ (.tail _ (.tail _ (.tail _ (.head _)))) | exact .tail _ (.tail _ (.tail _ (.tail _ (.tail _ (.head _))))) | exact .tail _ (.tail _ (.tail _ (.tail _ (.tail _ (.tail _ (.head _)))))) | exact .tail _ (.tail _ (.tail _ (.tail _ (.tail _ (.tail _ (.tail _ (.head _))))))) | exact .tail _ (.tail _ (.tail _ (.tail _ (.tail _ (.tail _ (.tail _ (.tail _ (.head _)))))))) | exact .tail _ (.tail _ (.tail _ (.tail _ (.tail _ (.tail _ (.tail _ (.tail _ (.tail _ (.head _))))))))) | exact .tail _ (.tail _ (.tail _ (.tail _ (.tail _ (.tail _ (.tail _ (.tail _ (.tail _ (.tail _ (.head _)))))))))) | exact .tail _ (.tail _ (.tail _ (.tail _ (.tail _ (.tail _ (.tail _ (.tail _ (.tail _ (.tail _ (.tail _ (.head _))))))))))) | apply And.intro))
    · refine r_callF (c_r2take GW s' hok' 2 (by decide) (by decide) (by omega)) (by exact rfl) (by exact rfl) (by exact rfl) (by simp) (by exact rfl) ?_
      rintro _ _ ⟨r, rfl, hr, hxr, rfl⟩
      refine r_move (k := ?_)
      refine r_ext (k := ?_)
      refine r_ext (k := ?_)
      refine r_ext (k := ?_)
      refine r_assign (k := ?_)
      refine r_assign (k := ?_)
      refine r_assign (k := ?_)
      refine sl_nil ?_
      refine sp_then ?_
      refine sw_seq ?_
      refine sw_region ?_
      refine r_move (k := ?_)
      refine r_move (k := ?_)
      refine r_idx_arr (k := ?_)
      refine r_store1 (k := ?_)
      refine sl_nil ?_
      refine sp_then ?_
      refine sw_region ?_
      refine r_move (k := ?_)
      refine r_assign (k := ?_)
      refine sl_nil ?_
      refine sp_block ?_
      refine sp_then ?_
      refine sw_region ?_
      refine r_move (k := ?_)
      refine r_add64 (k := ?_)
      refine r_assign (k := ?_)
      refine sl_nil ?_
      refine sp_eqB (B' := [.box b7 [vi 1, vi 2, vi 2, vi 4, vi 8] 122, .box b5 (pcells s.xs 2) 121, .box b2 PtrV.none.cs 27]) (by rw [hx]; rfl) ?_
      refine sp_loop (ι := { p : Nat × BS // p.1 ≤ 5 ∧ p.2.ok ∧ p.2.xs = s.xs.drop (poff p.1) }) ⟨(2, r), by simp, hr, by rw [hxr, hx]; simp [poff]⟩ ?_ ?_
      · dsimp only; omega
      · exact Ent.mk' (by repeat' (first | trivial | exact rfl | apply And.intro)) (by repeat' (first | trivial | exact .head _ | exact .tail _ (.head _) | exact .tail _ (.tail _ (.head _)) | exact .tail _ (.tail _ (.tail _ (.head _))) | exact .tail _ (.tail _ (.tail _ (.tail _ (.head _)))) | exact .tail _ (.tail _ (.tail _ (.tail _ (.tail _ (.head _))))) | exact .tail _ (.tail _ (.tail _ (.tail _ (.tail _ (.tail _ (.head _)))))) | exact .tail _ (.tail _ (.tail _ (.tail _ (.tail _ (.tail _ (.tail _ (.head _))))))) | exact .tail _ (.tail _ (.tail _ (.tail _ (.tail _ (.tail _ (.tail _ (.tail _ (.head _)))))))) | exact .tail _ (.tail _ (.tail _ (.tail _ (.tail _ (.tail _ (.tail _ (.tail _ (.tail _ (.head _))))))))) | exact .tail _ (.tail _ (.tail _ (.tail _ (.tail _ (.tail _ (.tail _ (.tail _ (.tail _ (.tail _ (.head _)))))))))) | exact .tail _ (.tail _ (.tail _ (.tail _ (.tail _ (.tail _ (.tail _ (.tail _ (.tail _ (.tail _ (.tail _ (.head _))))))))))) | apply And.intro))
    · refine r_callF (c_r2take GW s' hok' 2 (by decide) (by decide) (by omega)) (by exact rfl) (by exact rfl) (by exact rfl) (by simp) (by exact rfl) ?_
      rintro _ _ ⟨r, rfl, hr, hxr, rfl⟩
      refine r_move (k := ?_)
      refine r_ext (k := ?_)
      refine r_ext (k := ?_)
      refine r_ext (k := ?_)
      refine r_assign (k := ?_)
      refine r_assign (k := ?_)
      refine r_assign (k := ?_)
      refine sl_nil ?_
      refine sp_then ?_
      refine sw_seq ?_
      refine sw_region ?_
      refine r_move (k := ?_)
      refine r_move (k := ?_)
      refine r_idx_arr (k := ?_)
      refine r_store1 (k := ?_)
      refine sl_nil ?_
      refine sp_then ?_
      refine sw_region ?_
      refine r_move (k := ?_)
      refine r_assign (k := ?_)
      refine sl_nil ?_
      refine sp_block ?_
      refine sp_then ?_
      refine sw_region ?_
      refine r_move (k := ?_)
      refine r_add64 (k := ?_)
      refine r_assign (k := ?_)
      refine sl_nil ?_
      refine sp_eqB (B' := [.box b7 [vi 1, vi 2, vi 2, vi 4, vi 8] 122, .box b5 (pcells s.xs 3) 121, .box b2 PtrV.none.cs 27]) (by rw [hx]; rfl) ?_
      refine sp_loop (ι := { p : Nat × BS // p.1 ≤ 5 ∧ p.2.ok ∧ p.2.xs = s.xs.drop (poff p.1) }) ⟨(3, r), by simp, hr, by rw [hxr, hx]; simp [poff]⟩ ?_ ?_
      · dsimp only; omega
      · exact Ent.mk' (by repeat' (first | trivial | exact rfl | apply And.intro)) (by repeat' (first | trivial | exact .head _ | exact .tail _ (.head _) | exact .tail _ (.tail _ (.head _)) | exact .tail _ (.tail _ (.tail _ (.head _))) | exact .tail _ (.tail _ (.tail _ (.tail _ (.head _)))) | exact .tail _ (.tail _ (.tail _ (.tail _ (.tail _ (.head _))))) | exact .tail _ (.tail _ (.tail _ (.tail _ (.tail _ (.tail _ (.head _)))))) | exact .tail _ (.tail _ (.tail _ (.tail _ (.tail _ (.tail _ (.tail _ (.head _))))))) | exact .tail _ (.tail _ (.tail _ (.tail _ (.tail _ (.tail _ (.tail _ (.tail _ (.head _)))))))) | exact .tail _ (.tail _ (.tail _ (.tail _ (.tail _ (.tail _ (.tail _ (.tail _ (.tail _ (.head _))))))))) | exact .tail _ (.tail _ (.tail _ (.tail _ (.tail _ (.tail _ (.tail _ (.tail _ (.tail _ (.tail _ (.head _)))))))))) | exact .tail _ (.tail _ (.tail _ (.tail _ (.tail _ (.tail _ (.tail _ (.tail _ (.tail _ (.tail _ (.tail _ (.head _))))))))))) | apply And.intro))
    · refine r_callF (c_r2take GW s' hok' 4 (by decide) (by decide) (by omega)) (by exact rfl) (by exact rfl) (by exact rfl) (by simp) (by exact rfl) ?_
      rintro _ _ ⟨r, rfl, hr, hxr, rfl⟩
      refine r_move (k := ?_)
      refine r_ext (k := ?_)
      refine r_ext (k := ?_)
      refine r_ext (k := ?_)
      refine r_assign (k := ?_)
      refine r_assign (k := ?_)
      refine r_assign (k := ?_)
      refine sl_nil ?_
      refine sp_then ?_
      refine sw_seq ?_
      refine sw_region ?_
      refine r_move (k := ?_)
      refine r_move (k := ?_)
      refine r_idx_arr (k := ?_)
      refine r_store1 (k := ?_)
      refine sl_nil ?_
      refine sp_then ?_
      refine sw_region ?_
      refine r_move (k := ?_)
      refine r_assign (k := ?_)
      refine sl_nil ?_
      refine sp_block ?_
      refine sp_then ?_
      refine sw_region ?_
      refine r_move (k := ?_)
      refine r_add64 (k := ?_)
      refine r_assign (k := ?_)
      refine sl_nil ?_
      refine sp_eqB (B' := [.box b7 [vi 1, vi 2, vi 2, vi 4, vi 8] 122, .box b5 (pcells s.xs 4) 121, .box b2 PtrV.none.cs 27]) (by rw [hx]; rfl) ?_
      refine sp_loop (ι := { p : Nat × BS // p.1 ≤ 5 ∧ p.2.ok ∧ p.2.xs = s.xs.drop (poff p.1) }) ⟨(4, r), by simp, hr, by rw [hxr, hx]; simp [poff]⟩ ?_ ?_
      · dsimp only; omega
      · exact Ent.mk' (by repeat' (first | trivial | exact rfl | apply And.intro)) (by repeat' (first | trivial | exact .head _ | exact .tail _ (.head _) | exact .tail _ (.tail _ (.head _)) | exact .tail _ (.tail _ (.tail _ (.head _))) | exact .tail _ (.tail _ (.tail _ (.tail _ (.head _)))) | exact .tail _ (.tail _ (.tail _ (.tail _ (.tail _ (.head _))))) | exact .tail _ (.tail _ (.tail _ (.tail _ (.tail _ (.tail _ (.head _)))))) | exact .tail _ (.tail _ (.tail _ (.tail _ (.tail _ (.tail _ (.tail _ (.head _))))))) | exact .tail _ (.tail _ (.tail _ (.tail _ (.tail _ (.tail _ (.tail _ (.tail _ (.head _)))))))) | exact .tail _ (.tail _ (.tail _ (.tail _ (.tail _ (.tail _ (.tail _ (.tail _ (.tail _ (.head _))))))))) | exact .tail _ (.tail _ (.tail _ (.tail _ (.tail _ (.tail _ (.tail _ (.tail _ (.tail _ (.tail _ (.head _)))))))))) | exact .tail _ (.tail _ (.tail _ (.tail _ (.tail _ (.tail _ (.tail _ (.tail _ (.tail _ (.tail _ (.tail _ (.head _))))))))))) | apply And.intro))
    · refine r_callF (c_r2take GW s' hok' 8 (by decide) (by decide) (by omega)) (by exact rfl) (by exact rfl) (by exact rfl) (by simp) (by exact rfl) ?_
      rintro _ _ ⟨r, rfl, hr, hxr, rfl⟩
      refine r_move (k := ?_)
      refine r_ext (k := ?_)
      refine r_ext (k := ?_)
      refine r_ext (k := ?_)
      refine r_assign (k := ?_)
      refine r_assign (k := ?_)
      refine r_assign (k := ?_)
      refine sl_nil ?_
      refine sp_then ?_
      refine sw_seq ?_
      refine sw_region ?_
      refine r_move (k := ?_)
      refine r_move (k := ?_)
      refine r_idx_arr (k := ?_)
      refine r_store1 (k := ?_)
      refine sl_nil ?_
      refine sp_then ?_
      refine sw_region ?_
      refine r_move (k := ?_)
      refine r_assign (k := ?_)
      refine sl_nil ?_
      refine sp_block ?_
      refine sp_then ?_
      refine sw_region ?_
      refine r_move (k := ?_)
      refine r_add64 (k := ?_)
      refine r_assign (k := ?_)
      refine sl_nil ?_
      refine sp_eqB (B' := [.box b7 [vi 1, vi 2, vi 2, vi 4, vi 8] 122, .box b5 (pcells s.xs 5) 121, .box b2 PtrV.none.cs 27]) (by rw [hx]; rfl) ?_
      refine sp_loop (ι := { p : Nat × BS // p.1 ≤ 5 ∧ p.2.ok ∧ p.2.xs = s.xs.drop (poff p.1) }) ⟨(5, r), by simp, hr, by rw [hxr, hx]; simp [poff]⟩ ?_ ?_
      · dsimp only; omega
      · exact Ent.mk' (by repeat' (first | trivial | exact rfl | apply And.intro)) (by repeat' (first | trivial | exact .head _ | exact .tail _ (.head _) | exact .tail _ (.tail _ (.head _)) | exact .tail _ (.tail _ (.tail _ (.head _))) | exact .tail _ (.tail _ (.tail _ (.tail _ (.head _)))) | exact .tail _ (.tail _ (.tail _ (.tail _ (.tail _ (.head _))))) | exact .tail _ (.tail _ (.tail _ (.tail _ (.tail _ (.tail _ (.head _)))))) | exact .tail _ (.tail _ (.tail _ (.tail _ (.tail _ (.tail _ (.tail _ (.head _))))))) | exact .tail _ (.tail _ (.tail _ (.tail _ (.tail _ (.tail _ (.tail _ (.tail _ (.head _)))))))) | exact .tail _ (.tail _ (.tail _ (.tail _ (.tail _ (.tail _ (.tail _ (.tail _ (.tail _ (.head _))))))))) | exact .tail _ (.tail _ (.tail _ (.tail _ (.tail _ (.tail _ (.tail _ (.tail _ (.tail _ (.tail _ (.head _)))))))))) | exact .tail _ (.tail _ (.tail _ (.tail _ (.tail _ (.tail _ (.tail _ (.tail _ (.tail _ (.tail _ (.tail _ (.head _))))))))))) | apply And.intro))
  · have h := of_decide_eq_false h
    obtain rfl : i = 5 := by omega
    refine sw_exit ?_
    refine sp_then_exit ?_
    refine sp_loop_exit ?_
    refine sp_block_exit ?_
    refine sp_then ?_
    refine sw_seq ?_
    refine sw_region ?_
    refine r_idx_arr (k := ?_)
    refine r_load_one (k := ?_)
    refine r_cv_64_8 (k := ?_)
    refine r_idx_arr (k := ?_)
    refine r_load_one (k := ?_)
    refine r_cv_64_16 (k := ?_)
    refine r_idx_arr (k := ?_)
    refine r_load_one (k := ?_)
    refine r_cv_64_16 (k := ?_)
    refine r_buildP [v16 (ptake s.xs).a0, v16 (ptake s.xs).a1] (parts := [(0, .tmp 41), (1, .tmp 44)]) (by exact rfl) (by kernel_rfl) (by exact rfl) ?_
    refine r_idx_arr (k := ?_)
    refine r_load_one (k := ?_)
    refine r_cv_64_32 (k := ?_)
    refine r_idx_arr (k := ?_)
    refine r_load_one (k := ?_)
    refine r_buildP (ptake s.xs).cs (parts := [(0, .tmp 38), (1, .tmp 45), (2, .tmp 48), (3, .tmp 50)]) (by exact rfl) (by kernel_rfl) (by exact rfl) ?_
    refine r_move (k := ?_)
    refine r_store_all (k := ?_)
    refine r_assign (k := ?_)
    refine r_assign (k := ?_)
    refine sl_nil ?_
    refine sp_then ?_
    refine sw_ret ?_
    refine sp_ret3 rfl rfl (.agg rfl (tz rfl) rfl (.tail _ (.tail _ (.head _)))) (.tmp rfl) (.tmp rfl) rfl rfl ⟨rfl, s', rfl, hok', hx, rfl⟩ (by simp) rfl (by simp)
end Go.Proofs.YtjahiohlekdhoaaDoor
