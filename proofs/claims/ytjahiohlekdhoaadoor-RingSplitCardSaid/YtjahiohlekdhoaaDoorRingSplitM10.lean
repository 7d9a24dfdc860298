/-
  The walk of the law RingSplit.
-/
import Derived.Test.YtjahiohlekdhoaaDoorRingSplitM9
namespace Go.Proofs.YtjahiohlekdhoaaDoor
open Go
set_option maxHeartbeats 4000000
set_option maxRecDepth 4000
attribute [local irreducible] SW SL SP RA Then FQ IQ LoopQ RQ AQ NX CutQ Exit.noGoto
attribute [local irreducible] CutE

theorem oneT_go (n : Nat) (t : UInt32) (m : Nat) : oneT n t m = goT (t % 4).toNat (t % 4).toNat (plainA t (UInt16.ofNat n) 3 t).pure (plainA t (UInt16.ofNat n) 3 t).pure m := by
  unfold oneT goT
  split
  · rfl
  · rfl
theorem c_lawSplit (both' one two : Int) : Ctr Tryd.prog GW 8 [vi both', vi one, vi two] [] [] (ret1 (vb true)) := by
  refine Ctr.intro Tryd.func8 (by kernel_rfl) rfl Tryd.ntmps8 rfl rfl rfl fun w' X => ?_
  refine sw_seq ?_
  refine sw_region ?_
  refine r_assign (k := ?_)
  refine sl_nil ?_
  refine sp_then ?_
  refine sw_seq ?_
  refine sw_seq ?_
  refine sw_region ?_
  refine r_move (k := ?_)
  refine r_lss (k := ?_)
  refine r_move (k := ?_)
  by_cases g0 : both' < 1
  · refine r_re (t := 27) (v' := vb true) rfl (by rw [decide_eq_true g0]) ?_
    refine gd_no (k := ?_)
    refine gd_no (k := ?_)
    refine rd_pick_t (k := ?_)
    refine r_move (k := ?_)
    refine gd_no (k := ?_)
    refine gd_no (k := ?_)
    refine rd_pick_t (k := ?_)
    refine r_move (k := ?_)
    refine gd_no (k := ?_)
    refine gd_no (k := ?_)
    refine rd_pick_t (k := ?_)
    refine r_move (k := ?_)
    refine gd_no (k := ?_)
    refine gd_no (k := ?_)
    refine rd_pick_t (k := ?_)
    refine r_move (k := ?_)
    refine gd_no (k := ?_)
    refine gd_no (k := ?_)
    refine rd_pick_t (k := ?_)
    refine sl_nil ?_
    refine sp_then ?_
    refine swd_t (h := ?_)
    refine sw_seq ?_
    refine sw_region ?_
    refine r_call1 c_wakes12 (by exact rfl) (by exact rfl) (by exact rfl) (by simp) (by exact rfl) ?_
    refine r_assign (k := ?_)
    refine sl_nil ?_
    refine sp_then ?_
    refine sw_ret ?_
    refine sp_then_ret ?_
    refine sp_retv rfl rfl (.tmp rfl) rfl rfl ⟨rfl, rfl, rfl⟩ (by simp) rfl (by simp)
  refine r_re (t := 27) (v' := vb false) rfl (by rw [decide_eq_false g0]) ?_
  refine gd_yes (k := ?_)
  refine r_move (k := ?_)
  refine gd_yes (k := ?_)
  refine r_gtr (k := ?_)
  refine rd_pick_f (k := ?_)
  refine r_move (k := ?_)
  by_cases g1 : 1000 < both'
  · refine r_re (t := 31) (v' := vb true) rfl (by rw [decide_eq_true g1]) ?_
    refine gd_no (k := ?_)
    refine gd_no (k := ?_)
    refine rd_pick_t (k := ?_)
    refine r_move (k := ?_)
    refine gd_no (k := ?_)
    refine gd_no (k := ?_)
    refine rd_pick_t (k := ?_)
    refine r_move (k := ?_)
    refine gd_no (k := ?_)
    refine gd_no (k := ?_)
    refine rd_pick_t (k := ?_)
    refine r_move (k := ?_)
    refine gd_no (k := ?_)
    refine gd_no (k := ?_)
    refine rd_pick_t (k := ?_)
    refine sl_nil ?_
    refine sp_then ?_
    refine swd_t (h := ?_)
    refine sw_seq ?_
    refine sw_region ?_
    refine r_call1 c_wakes12 (by exact rfl) (by exact rfl) (by exact rfl) (by simp) (by exact rfl) ?_
    refine r_assign (k := ?_)
    refine sl_nil ?_
    refine sp_then ?_
    refine sw_ret ?_
    refine sp_then_ret ?_
    refine sp_retv rfl rfl (.tmp rfl) rfl rfl ⟨rfl, rfl, rfl⟩ (by simp) rfl (by simp)
  refine r_re (t := 31) (v' := vb false) rfl (by rw [decide_eq_false g1]) ?_
  refine gd_yes (k := ?_)
  refine r_move (k := ?_)
  refine gd_yes (k := ?_)
  refine r_lss (k := ?_)
  refine rd_pick_f (k := ?_)
  refine r_move (k := ?_)
  by_cases g2 : one < 1
  · refine r_re (t := 35) (v' := vb true) rfl (by rw [decide_eq_true g2]) ?_
    refine gd_no (k := ?_)
    refine gd_no (k := ?_)
    refine rd_pick_t (k := ?_)
    refine r_move (k := ?_)
    refine gd_no (k := ?_)
    refine gd_no (k := ?_)
    refine rd_pick_t (k := ?_)
    refine r_move (k := ?_)
    refine gd_no (k := ?_)
    refine gd_no (k := ?_)
    refine rd_pick_t (k := ?_)
    refine sl_nil ?_
    refine sp_then ?_
    refine swd_t (h := ?_)
    refine sw_seq ?_
    refine sw_region ?_
    refine r_call1 c_wakes12 (by exact rfl) (by exact rfl) (by exact rfl) (by simp) (by exact rfl) ?_
    refine r_assign (k := ?_)
    refine sl_nil ?_
    refine sp_then ?_
    refine sw_ret ?_
    refine sp_then_ret ?_
    refine sp_retv rfl rfl (.tmp rfl) rfl rfl ⟨rfl, rfl, rfl⟩ (by simp) rfl (by simp)
  refine r_re (t := 35) (v' := vb false) rfl (by rw [decide_eq_false g2]) ?_
  refine gd_yes (k := ?_)
  refine r_move (k := ?_)
  refine gd_yes (k := ?_)
  refine r_gtr (k := ?_)
  refine rd_pick_f (k := ?_)
  refine r_move (k := ?_)
  by_cases g3 : 1000 < one
  · refine r_re (t := 39) (v' := vb true) rfl (by rw [decide_eq_true g3]) ?_
    refine gd_no (k := ?_)
    refine gd_no (k := ?_)
    refine rd_pick_t (k := ?_)
    refine r_move (k := ?_)
    refine gd_no (k := ?_)
    refine gd_no (k := ?_)
    refine rd_pick_t (k := ?_)
    refine sl_nil ?_
    refine sp_then ?_
    refine swd_t (h := ?_)
    refine sw_seq ?_
    refine sw_region ?_
    refine r_call1 c_wakes12 (by exact rfl) (by exact rfl) (by exact rfl) (by simp) (by exact rfl) ?_
    refine r_assign (k := ?_)
    refine sl_nil ?_
    refine sp_then ?_
    refine sw_ret ?_
    refine sp_then_ret ?_
    refine sp_retv rfl rfl (.tmp rfl) rfl rfl ⟨rfl, rfl, rfl⟩ (by simp) rfl (by simp)
  refine r_re (t := 39) (v' := vb false) rfl (by rw [decide_eq_false g3]) ?_
  refine gd_yes (k := ?_)
  refine r_move (k := ?_)
  refine gd_yes (k := ?_)
  refine r_lss (k := ?_)
  refine rd_pick_f (k := ?_)
  refine r_move (k := ?_)
  by_cases g4 : two < 1
  · refine r_re (t := 43) (v' := vb true) rfl (by rw [decide_eq_true g4]) ?_
    refine gd_no (k := ?_)
    refine gd_no (k := ?_)
    refine rd_pick_t (k := ?_)
    refine sl_nil ?_
    refine sp_then ?_
    refine swd_t (h := ?_)
    refine sw_seq ?_
    refine sw_region ?_
    refine r_call1 c_wakes12 (by exact rfl) (by exact rfl) (by exact rfl) (by simp) (by exact rfl) ?_
    refine r_assign (k := ?_)
    refine sl_nil ?_
    refine sp_then ?_
    refine sw_ret ?_
    refine sp_then_ret ?_
    refine sp_retv rfl rfl (.tmp rfl) rfl rfl ⟨rfl, rfl, rfl⟩ (by simp) rfl (by simp)
  refine r_re (t := 43) (v' := vb false) rfl (by rw [decide_eq_false g4]) ?_
  refine gd_yes (k := ?_)
  refine r_move (k := ?_)
  refine gd_yes (k := ?_)
  refine r_gtr (k := ?_)
  refine rd_pick_f (k := ?_)
  refine sl_nil ?_
  refine sp_then ?_
  by_cases g5 : 1000 < two
  · refine w_re (t := 46) (v' := vb true) rfl (by rw [decide_eq_true g5]) ?_
    refine swd_t (h := ?_)
    refine sw_seq ?_
    refine sw_region ?_
    refine r_call1 c_wakes12 (by exact rfl) (by exact rfl) (by exact rfl) (by simp) (by exact rfl) ?_
    refine r_assign (k := ?_)
    refine sl_nil ?_
    refine sp_then ?_
    refine sw_ret ?_
    refine sp_then_ret ?_
    refine sp_retv rfl rfl (.tmp rfl) rfl rfl ⟨rfl, rfl, rfl⟩ (by simp) rfl (by simp)
  refine w_re (t := 46) (v' := vb false) rfl (by rw [decide_eq_false g5]) ?_
  obtain ⟨j0, rfl⟩ : ∃ n : Nat, both' = (n : Int) := ⟨both'.toNat, by omega⟩
  obtain ⟨j1, rfl⟩ : ∃ n : Nat, one = (n : Int) := ⟨one.toNat, by omega⟩
  obtain ⟨j2, rfl⟩ : ∃ n : Nat, two = (n : Int) := ⟨two.toNat, by omega⟩
  obtain ⟨t0, et0⟩ : ∃ t, t = UInt32.ofNat j0 := ⟨_, rfl⟩
  obtain ⟨t1, et1⟩ : ∃ t, t = UInt32.ofNat (j0 + j1) := ⟨_, rfl⟩
  obtain ⟨t2, et2⟩ : ∃ t, t = UInt32.ofNat (j0 + j2) := ⟨_, rfl⟩
  have ht0 : t0.toNat = j0 := by rw [et0]; simp; omega
  have ht1 : t1.toNat = j0 + j1 := by rw [et1]; simp; omega
  have ht2 : t2.toNat = j0 + j2 := by rw [et2]; simp; omega
  have hcv0 : IntKind.u32.wrap (j0 : Int) = (t0.toNat : Int) := by rw [IntKind.wrap_u32, ht0]; omega
  have hcv1 : IntKind.u32.wrap ((j0 : Int) + (j1 : Int)) = (t1.toNat : Int) := by rw [IntKind.wrap_u32, ht1]; omega
  have hcv2 : IntKind.u32.wrap ((j0 : Int) + (j2 : Int)) = (t2.toNat : Int) := by rw [IntKind.wrap_u32, ht2]; omega
  have hr0 : (plainA t0 (UInt16.ofNat 32) 3 t0).right = true := plain_right t0 32 (by decide) (by decide) (by omega) (by omega)
  have hr1 : (plainA t1 (UInt16.ofNat 32) 1 (t1 - 1)).right = true := plain_rightL t1 32 (by decide) (by decide) 1 (.inl rfl) (by omega) (by omega)
  have hr2 : (plainA t2 (UInt16.ofNat 32) 2 (t2 - 1)).right = true := plain_rightL t2 32 (by decide) (by decide) 2 (.inr rfl) (by omega) (by omega)
  have he0 : (encV (plainA t0 (UInt16.ofNat 32) 3 t0)).2 = 0 := by unfold encV; rw [if_pos hr0]
  have he1 : (encV (plainA t1 (UInt16.ofNat 32) 1 (t1 - 1))).2 = 0 := by unfold encV; rw [if_pos hr1]
  have he2 : (encV (plainA t2 (UInt16.ofNat 32) 2 (t2 - 1))).2 = 0 := by unfold encV; rw [if_pos hr2]
  refine swd_f (h := ?_)
  refine sw_skip ?_
  refine sp_then ?_
  refine sw_seq ?_
  refine sw_region ?_
  refine r_callF (c_pair GW 32 (by decide) (by decide)) (by exact rfl) (by exact rfl) (by exact rfl) (by simp) (by exact rfl) ?_
  rintro _ _ ⟨p, rfl, ⟨ho0, ho1⟩, hp0, hp1, rfl⟩
  have hp : p.holds 32 0 fun _ => AncP.zero := ⟨ho0, ho1, by rw [hp0]; exact holds_fresh (by decide) (by decide), by rw [hp1]; exact holds_fresh (by decide) (by decide)⟩
  have hc0 : p.d0.cache.xs.length < 1000 := Nat.lt_of_le_of_lt hp.h0.cache (by decide)
  have hc1 : p.d1.cache.xs.length < 1000 := Nat.lt_of_le_of_lt hp.h1.cache (by decide)
  refine r_alloc (by exact z63) (by exact rfl) (by exact rfl) fun b7 => ?_
  refine r_store_all (k := ?_)
  refine sl_nil ?_
  refine sp_then ?_
  refine sw_seq ?_
  refine w_have (φ := BS.nil.res) (fun V w _ i v hv => by simp [BS.nil, bv] at hv) ?_
  refine sw_thenE (ι := { s : PairV × Nat // s.1.holds 32 1 (oneT 32 t0) }) (fun s => [(0, vi (j0 : Int)), (1, vi (j1 : Int)), (2, vi (j2 : Int)), (8, .pointer (some ⟨s.1.2, 0, none⟩)), (9, vi 0)]) (fun s => [.box s.1.2 s.1.1.cs 63, .box b7 p.cs 63])
    (fun s => [s.1.1.d0.rp, s.1.1.d0.rc, s.1.1.d0.rb, s.1.1.d1.rp, s.1.1.d1.rc, s.1.1.d1.rb, BS.nil.res]) [] ?_ fun s => ?_
  · 
    refine sw_draw [(none, .box b7 p.cs 63)] [] [0, 1, 2, 3, 4, 5, 6, 7, 8, 9, 10] mix (by kernel_rfl) rfl ?_
    refine ra_first 0 [(none, .box b7 p.cs 63)] [1, 2, 3, 4, 5, 6, 7, 8, 9, 10] (hq := by first | exact q_load_one | exact q_load_all | exact q_load_fr1 | exact q_load_fr) (k := ?_)
    refine ra_first 1 [] [2, 3, 4, 5, 6, 7, 8, 9, 10] (hq := by exact q_move) (k := ?_)
    refine ra_first 2 [] [3, 4, 5, 6, 7, 8, 9, 10] (hq := by exact q_cv (r := (t0.toNat : Int)) (by exact ti rfl) (by exact ti rfl) (by exact rfl) hcv0) (k := ?_)
    refine ra2 (i := 3) (j := 8) [4, 5, 6, 7, 8, 9, 10] [3, 4, 5, 6, 7, 9, 10] (by kernel_rfl) rfl rfl rfl rfl ?_ ?_
    · 
      refine r_call1 (c_plain3 GW t0 32 (by decide)) (by exact rfl) (by exact rfl) (by exact rfl) (by simp) (by exact rfl) ?_
      refine sl_nil ?_
      refine sp_nx (k := ?_)
      refine ra2 (i := 4) (j := 8) [5, 6, 7, 8, 9, 10] [4, 5, 6, 7, 9, 10] (by kernel_rfl) rfl rfl rfl rfl ?_ ?_
      · 
        refine r_callF (c_rput p ho0 ho1 (by rw [hp.live]; decide) (plainA t0 (UInt16.ofNat 32) 3 t0) ⟨Nat.le_refl _, Nat.zero_le _⟩ hc0 hc1) (by exact rfl) (by exact rfl) (by exact rfl) (PhAll.all (by repeat' (first | trivial | apply And.intro | ((iterate 40 (first | exact .head _ | apply List.Mem.tail | skip)); done)))) (by exact rfl) ?_
        rintro _ _ ⟨s, rfl, hs, rfl⟩
        refine sl_nil ?_
        refine sp_nx (k := ?_)
        refine ra_first 5 [] [6, 7, 8, 9, 10] (hq := by exact q_move) (k := ?_)
        refine ra_first 6 [] [7, 8, 9, 10] (hq := by exact q_ext) (k := ?_)
        refine ra_first 7 [] [8, 9, 10] (hq := by exact q_ext) (k := ?_)
        refine ra1 (i := 8) [9, 10] (h := ?_)
        refine r_alloc (by exact z63) (by exact rfl) (by exact rfl) fun b8 => ?_
        refine sl_nil ?_
        refine sp_nx (k := ?_)
        refine ra1 (i := 9) [10] (h := ?_)
        refine r_store_all (k := ?_)
        refine sl_nil ?_
        refine sp_nx (k := ?_)
        refine ra_first 10 [] [] (hq := by exact q_assign) (k := ?_)
        refine ra_done ?_
        refine sp_re (t := 9) (v' := vi 0) rfl (by rw [he0]) ?_
        exact sp_cutE ⟨(s, b8), hp.put (by decide) _ hr0 (plain_size t0 32 (by decide)) hs⟩ (by repeat' (first | trivial | exact rfl | apply And.intro)) (by repeat' (first | trivial | apply And.intro | ((iterate 40 (first | exact .head _ | apply List.Mem.tail | skip)); done))) rfl
      · 
        refine r_alloc (by exact z63) (by exact rfl) (by exact rfl) fun b8 => ?_
        refine sl_nil ?_
        refine sp_nx (k := ?_)
        refine ra1 (i := 4) [5, 6, 7, 9, 10] (h := ?_)
        refine r_callF (c_rput p ho0 ho1 (by rw [hp.live]; decide) (plainA t0 (UInt16.ofNat 32) 3 t0) ⟨Nat.le_refl _, Nat.zero_le _⟩ hc0 hc1) (by exact rfl) (by exact rfl) (by exact rfl) (PhAll.all (by repeat' (first | trivial | apply And.intro | ((iterate 40 (first | exact .head _ | apply List.Mem.tail | skip)); done)))) (by exact rfl) ?_
        rintro _ _ ⟨s, rfl, hs, rfl⟩
        refine sl_nil ?_
        refine sp_nx (k := ?_)
        refine ra_first 5 [] [6, 7, 9, 10] (hq := by exact q_move) (k := ?_)
        refine ra_first 6 [] [7, 9, 10] (hq := by exact q_ext) (k := ?_)
        refine ra_first 7 [] [9, 10] (hq := by exact q_ext) (k := ?_)
        refine ra1 (i := 9) [10] (h := ?_)
        refine r_store_all (k := ?_)
        refine sl_nil ?_
        refine sp_nx (k := ?_)
        refine ra_first 10 [] [] (hq := by exact q_assign) (k := ?_)
        refine ra_done ?_
        refine sp_re (t := 9) (v' := vi 0) rfl (by rw [he0]) ?_
        exact sp_cutE ⟨(s, b8), hp.put (by decide) _ hr0 (plain_size t0 32 (by decide)) hs⟩ (by repeat' (first | trivial | exact rfl | apply And.intro)) (by repeat' (first | trivial | apply And.intro | ((iterate 40 (first | exact .head _ | apply List.Mem.tail | skip)); done))) rfl
    · 
      refine r_alloc (by exact z63) (by exact rfl) (by exact rfl) fun b8 => ?_
      refine sl_nil ?_
      refine sp_nx (k := ?_)
      refine ra1 (i := 3) [4, 5, 6, 7, 9, 10] (h := ?_)
      refine r_call1 (c_plain3 GW t0 32 (by decide)) (by exact rfl) (by exact rfl) (by exact rfl) (by simp) (by exact rfl) ?_
      refine sl_nil ?_
      refine sp_nx (k := ?_)
      refine ra1 (i := 4) [5, 6, 7, 9, 10] (h := ?_)
      refine r_callF (c_rput p ho0 ho1 (by rw [hp.live]; decide) (plainA t0 (UInt16.ofNat 32) 3 t0) ⟨Nat.le_refl _, Nat.zero_le _⟩ hc0 hc1) (by exact rfl) (by exact rfl) (by exact rfl) (PhAll.all (by repeat' (first | trivial | apply And.intro | ((iterate 40 (first | exact .head _ | apply List.Mem.tail | skip)); done)))) (by exact rfl) ?_
      rintro _ _ ⟨s, rfl, hs, rfl⟩
      refine sl_nil ?_
      refine sp_nx (k := ?_)
      refine ra_first 5 [] [6, 7, 9, 10] (hq := by exact q_move) (k := ?_)
      refine ra_first 6 [] [7, 9, 10] (hq := by exact q_ext) (k := ?_)
      refine ra_first 7 [] [9, 10] (hq := by exact q_ext) (k := ?_)
      refine ra1 (i := 9) [10] (h := ?_)
      refine r_store_all (k := ?_)
      refine sl_nil ?_
      refine sp_nx (k := ?_)
      refine ra_first 10 [] [] (hq := by exact q_assign) (k := ?_)
      refine ra_done ?_
      refine sp_re (t := 9) (v' := vi 0) rfl (by rw [he0]) ?_
      exact sp_cutE ⟨(s, b8), hp.put (by decide) _ hr0 (plain_size t0 32 (by decide)) hs⟩ (by repeat' (first | trivial | exact rfl | apply And.intro)) (by repeat' (first | trivial | apply And.intro | ((iterate 40 (first | exact .head _ | apply List.Mem.tail | skip)); done))) rfl
  obtain ⟨⟨o, b8⟩, hO⟩ := s
  dsimp only at hO ⊢
  refine sw_seq ?_
  refine sw_seq ?_
  refine sw_region ?_
  refine r_move (k := ?_)
  refine r_neq (k := ?_)
  refine sl_nil ?_
  refine sp_then ?_
  refine w_re (t := 58) (v' := vb false) rfl rfl ?_
  refine swd_f (h := ?_)
  refine sw_skip ?_
  refine sp_then ?_
  refine sw_seq ?_
  refine sw_thenE (ι := Nat × Nat) (fun b => [(0, vi (j0 : Int)), (1, vi (j1 : Int)), (2, vi (j2 : Int)), (8, .pointer (some ⟨b8, 0, none⟩)), (10, .pointer (some ⟨b.1, 0, none⟩)), (11, .pointer (some ⟨b.2, 0, none⟩))])
    (fun b => [.box b.1 o.cs 63, .box b.2 o.cs 63, .box b8 o.cs 63, .box b7 p.cs 63]) (fun _ => [o.d0.rp, o.d0.rc, o.d0.rb, o.d1.rp, o.d1.rc, o.d1.rb, BS.nil.res]) [] ?_ fun b => ?_
  · 
    refine sw_draw [(none, .box b8 o.cs 63)] [] [0, 1, 2, 3, 4, 5] mix (by kernel_rfl) rfl ?_
    refine ra_first 0 [(none, .box b8 o.cs 63)] [1, 2, 3, 4, 5] (hq := by first | exact q_load_one | exact q_load_all | exact q_load_fr1 | exact q_load_fr) (k := ?_)
    refine ra_first 1 [(none, .box b8 o.cs 63)] [2, 3, 4, 5] (hq := by first | exact q_load_one | exact q_load_all | exact q_load_fr1 | exact q_load_fr) (k := ?_)
    refine ra2 (i := 2) (j := 3) [3, 4, 5] [2, 4, 5] (by kernel_rfl) rfl rfl rfl rfl ?_ ?_
    · 
      refine r_alloc (by exact z63) (by exact rfl) (by exact rfl) fun b10 => ?_
      refine sl_nil ?_
      refine sp_nx (k := ?_)
      refine ra1 (i := 3) [4, 5] (h := ?_)
      refine r_alloc (by exact z63) (by exact rfl) (by exact rfl) fun b11 => ?_
      refine sl_nil ?_
      refine sp_nx (k := ?_)
      refine ra1 (i := 4) [5] (h := ?_)
      refine r_store_all (k := ?_)
      refine sl_nil ?_
      refine sp_nx (k := ?_)
      refine ra1 (i := 5) [] (h := ?_)
      refine r_store_all (k := ?_)
      refine sl_nil ?_
      refine sp_nx (k := ?_)
      refine ra_done ?_
      refine sp_pull 1 rfl ?_
      exact sp_cutE (b10, b11) (by repeat' (first | trivial | exact rfl | apply And.intro)) (by repeat' (first | trivial | apply And.intro | ((iterate 40 (first | exact .head _ | apply List.Mem.tail | skip)); done))) rfl
    · 
      refine r_alloc (by exact z63) (by exact rfl) (by exact rfl) fun b11 => ?_
      refine sl_nil ?_
      refine sp_nx (k := ?_)
      refine ra1 (i := 2) [4, 5] (h := ?_)
      refine r_alloc (by exact z63) (by exact rfl) (by exact rfl) fun b10 => ?_
      refine sl_nil ?_
      refine sp_nx (k := ?_)
      refine ra1 (i := 4) [5] (h := ?_)
      refine r_store_all (k := ?_)
      refine sl_nil ?_
      refine sp_nx (k := ?_)
      refine ra1 (i := 5) [] (h := ?_)
      refine r_store_all (k := ?_)
      refine sl_nil ?_
      refine sp_nx (k := ?_)
      refine ra_done ?_
      exact sp_cutE (b10, b11) (by repeat' (first | trivial | exact rfl | apply And.intro)) (by repeat' (first | trivial | apply And.intro | ((iterate 40 (first | exact .head _ | apply List.Mem.tail | skip)); done))) rfl
  obtain ⟨b10, b11⟩ := b
  dsimp only
  refine sw_seq ?_
  
  refine sw_draw [(none, .box b8 o.cs 63)] [] [0, 1, 2, 3, 4, 5, 6, 7, 8, 9, 10, 11, 12, 13, 14, 15] mix (by kernel_rfl) rfl ?_
  refine ra_first 0 [] [1, 2, 3, 4, 5, 6, 7, 8, 9, 10, 11, 12, 13, 14, 15] (hq := by exact q_fieldAddr) (k := ?_)
  refine ra_first 1 [] [2, 3, 4, 5, 6, 7, 8, 9, 10, 11, 12, 13, 14, 15] (hq := by exact q_idx_arr (i := 1) (m := 1) (by exact ta rfl) (by exact rfl) (by exact rfl) (by decide) (by decide) rfl) (k := ?_)
  refine ra_first 2 [(none, .box b8 o.cs 63)] [3, 4, 5, 6, 7, 8, 9, 10, 11, 12, 13, 14, 15] (hq := by exact q_load_agg (vs := o.d1.cs) (by exact tz rfl) (by exact rfl) (.head _) rfl rfl) (k := ?_)
  refine ra_first 5 [] [3, 4, 6, 7, 8, 9, 10, 11, 12, 13, 14, 15] (hq := by exact q_fieldAddr) (k := ?_)
  refine ra_first 6 [] [3, 4, 7, 8, 9, 10, 11, 12, 13, 14, 15] (hq := by exact q_idx_arr (i := 0) (m := 0) (by exact ta rfl) (by exact rfl) (by exact rfl) (by decide) (by decide) rfl) (k := ?_)
  refine ra_first 7 [(none, .box b8 o.cs 63)] [3, 4, 8, 9, 10, 11, 12, 13, 14, 15] (hq := by exact q_load_agg (vs := o.d0.cs) (by exact tz rfl) (by exact rfl) (.head _) rfl rfl) (k := ?_)
  refine ra_first 10 [] [3, 4, 8, 9, 11, 12, 13, 14, 15] (hq := by exact q_fieldAddr) (k := ?_)
  refine ra_first 13 [] [3, 4, 8, 9, 11, 12, 14, 15] (hq := by exact q_fieldAddr) (k := ?_)
  refine ra1 (i := 3) [4, 8, 9, 11, 12, 14, 15] (h := ?_)
  refine r_callF (c_flushed GW o.d1 hO.o1 hO.h1.off hO.h1.bad) (by exact rfl) (by exact rfl) (by exact rfl) (PhAll.all (by repeat' (first | trivial | apply And.intro | ((iterate 40 (first | exact .head _ | apply List.Mem.tail | skip)); done)))) (by exact rfl) ?_
  rintro _ _ ⟨x1, rfl, hx1, hxp1, rfl⟩
  refine sl_nil ?_
  refine sp_nx (k := ?_)
  refine ra1 (i := 4) [8, 9, 11, 12, 14, 15] (h := ?_)
  refine r_callF (c_detach GW x1 hx1) (by exact rfl) (by exact rfl) (by exact rfl) (PhAll.all (by repeat' (first | trivial | apply And.intro | ((iterate 40 (first | exact .head _ | apply List.Mem.tail | skip)); done)))) (by exact rfl) ?_
  rintro _ _ ⟨y1, rfl, hy1, hyp1, rfl⟩
  refine sl_nil ?_
  refine sp_nx (k := ?_)
  refine ra_first 11 [] [8, 9, 12, 14, 15] (hq := by exact q_idx_arr (i := 1) (m := 1) (by exact ta rfl) (by exact rfl) (by exact rfl) (by decide) (by decide) rfl) (k := ?_)
  refine ra1 (i := 8) [9, 12, 14, 15] (h := ?_)
  refine r_callF (c_flushed GW o.d0 hO.o0 hO.h0.off hO.h0.bad) (by exact rfl) (by exact rfl) (by exact rfl) (PhAll.all (by repeat' (first | trivial | apply And.intro | ((iterate 40 (first | exact .head _ | apply List.Mem.tail | skip)); done)))) (by exact rfl) ?_
  rintro _ _ ⟨x0, rfl, hx0, hxp0, rfl⟩
  refine sl_nil ?_
  refine sp_nx (k := ?_)
  refine ra1 (i := 9) [12, 14, 15] (h := ?_)
  refine r_callF (c_detach GW x0 hx0) (by exact rfl) (by exact rfl) (by exact rfl) (PhAll.all (by repeat' (first | trivial | apply And.intro | ((iterate 40 (first | exact .head _ | apply List.Mem.tail | skip)); done)))) (by exact rfl) ?_
  rintro _ _ ⟨y0, rfl, hy0, hyp0, rfl⟩
  refine sl_nil ?_
  refine sp_nx (k := ?_)
  refine ra1 (i := 12) [14, 15] (h := ?_)
  refine r_store (vs := y1.cs) (cs' := PairV.cs ⟨o.d0, y1⟩) (by exact tz rfl) (by exact rfl) (by exact rfl) (by iterate 24 (first | exact .hd | apply Upd.tl | skip)) rfl rfl rfl (Nat.le_of_ble_eq_true rfl) rfl ?_
  refine sl_nil ?_
  refine sp_nx (k := ?_)
  refine ra_first 14 [] [15] (hq := by exact q_idx_arr (i := 0) (m := 0) (by exact ta rfl) (by exact rfl) (by exact rfl) (by decide) (by decide) rfl) (k := ?_)
  refine ra1 (i := 15) [] (h := ?_)
  refine r_store (vs := y0.cs) (cs' := PairV.cs ⟨y0, o.d1⟩) (by exact tz rfl) (by exact rfl) (by exact rfl) (by iterate 24 (first | exact .hd | apply Upd.tl | skip)) rfl rfl rfl (Nat.le_of_ble_eq_true rfl) rfl ?_
  refine sl_nil ?_
  refine sp_nx (k := ?_)
  refine ra_done ?_
  refine sp_then ?_
  refine sw_seq ?_
  have hz1 : y1.cache.xs = [] := congrArg DiskP.cache hyp1
  have hz0 : y0.cache.xs = [] := congrArg DiskP.cache hyp0
  have hoc0 : o.d0.cache.xs.length < 1000 := Nat.lt_of_le_of_lt hO.h0.cache (by decide)
  have hoc1 : o.d1.cache.xs.length < 1000 := Nat.lt_of_le_of_lt hO.h1.cache (by decide)
  have hyc1 : y1.cache.xs.length < 1000 := by rw [hz1]; exact Nat.zero_lt_succ _
  have hyc0 : y0.cache.xs.length < 1000 := by rw [hz0]; exact Nat.zero_lt_succ _
  refine w_set [o.d0.rp, o.d0.rc, o.d0.rb, o.d1.rp, o.d1.rc, o.d1.rb, y1.rp, y1.rc, y1.rb, y0.rp, y0.rc, y0.rb, BS.nil.res] (fun V w hw φ hφ => hw φ ((PhAll.all (by repeat' (first | trivial | apply And.intro | ((iterate 40 (first | exact .head _ | apply List.Mem.tail | skip)); done)))) φ hφ)) ?_
  
  refine sw_draw [(some 10, .box b10 (PairV.cs ⟨o.d0, y1⟩) 63)] [] [0, 1, 2, 3, 4, 5, 6, 7, 8, 9, 10, 11] mix (by kernel_rfl) rfl ?_
  refine ra_first 0 [(some 10, .box b10 (PairV.cs ⟨o.d0, y1⟩) 63)] [1, 2, 3, 4, 5, 6, 7, 8, 9, 10, 11] (hq := by first | exact q_load_one | exact q_load_all | exact q_load_fr1 | exact q_load_fr) (k := ?_)
  refine ra_first 1 [] [2, 3, 4, 5, 6, 7, 8, 9, 10, 11] (hq := by exact q_move) (k := ?_)
  refine ra_first 2 [] [3, 4, 5, 6, 7, 8, 9, 10, 11] (hq := by exact q_move) (k := ?_)
  refine ra_first 3 [] [4, 5, 6, 7, 8, 9, 10, 11] (hq := by exact q_add64) (k := ?_)
  refine ra_first 4 [] [5, 6, 7, 8, 9, 10, 11] (hq := by exact q_cv (r := (t1.toNat : Int)) (by exact ti rfl) (by exact ti rfl) (by exact rfl) hcv1) (k := ?_)
  refine ra1 (i := 5) [6, 7, 8, 9, 10, 11] (h := ?_)
  refine r_call1 (c_plainL GW t1 32 (by decide) 1 (.inl rfl) (by omega)) (by exact rfl) (by exact rfl) (by exact rfl) (by simp) (by exact rfl) ?_
  refine sl_nil ?_
  refine sp_nx (k := ?_)
  refine ra1 (i := 6) [7, 8, 9, 10, 11] (h := ?_)
  refine r_callF (c_rput ⟨o.d0, y1⟩ hO.o0 hy1 (live_pos ⟨o.d0, y1⟩ false hO.h0.off) (plainA t1 (UInt16.ofNat 32) 1 (t1 - 1)) ⟨Nat.le_refl _, Nat.zero_le _⟩ hoc0 hyc1) (by exact rfl) (by exact rfl) (by exact rfl) (PhAll.all (by repeat' (first | trivial | apply And.intro | ((iterate 40 (first | exact .head _ | apply List.Mem.tail | skip)); done)))) (by exact rfl) ?_
  rintro _ _ ⟨a2, rfl, ha2, rfl⟩
  rw [he1]
  refine sl_nil ?_
  refine sp_nx (k := ?_)
  refine ra_first 7 [] [8, 9, 10, 11] (hq := by exact q_move) (k := ?_)
  refine ra_first 8 [] [9, 10, 11] (hq := by exact q_ext) (k := ?_)
  refine ra_first 9 [] [10, 11] (hq := by exact q_ext) (k := ?_)
  refine ra1 (i := 10) [11] (h := ?_)
  refine r_store_all (k := ?_)
  refine sl_nil ?_
  refine sp_nx (k := ?_)
  refine ra_first 11 [] [] (hq := by exact q_assign) (k := ?_)
  refine ra_done ?_
  refine sp_then ?_
  refine sw_seq ?_
  refine w_set [o.d0.rp, o.d0.rc, o.d0.rb, o.d1.rp, o.d1.rc, o.d1.rb, a2.d0.rp, a2.d0.rc, a2.d0.rb, y0.rp, y0.rc, y0.rb, BS.nil.res] (fun V w hw φ hφ => hw φ ((PhAll.all (by repeat' (first | trivial | apply And.intro | ((iterate 40 (first | exact .head _ | apply List.Mem.tail | skip)); done)))) φ hφ)) ?_
  
  refine sw_draw [(some 10, .box b11 (PairV.cs ⟨y0, o.d1⟩) 63)] [] [0, 1, 2, 3, 4, 5, 6, 7, 8, 9, 10, 11] mix (by kernel_rfl) rfl ?_
  refine ra_first 0 [(some 10, .box b11 (PairV.cs ⟨y0, o.d1⟩) 63)] [1, 2, 3, 4, 5, 6, 7, 8, 9, 10, 11] (hq := by first | exact q_load_one | exact q_load_all | exact q_load_fr1 | exact q_load_fr) (k := ?_)
  refine ra_first 1 [] [2, 3, 4, 5, 6, 7, 8, 9, 10, 11] (hq := by exact q_move) (k := ?_)
  refine ra_first 2 [] [3, 4, 5, 6, 7, 8, 9, 10, 11] (hq := by exact q_move) (k := ?_)
  refine ra_first 3 [] [4, 5, 6, 7, 8, 9, 10, 11] (hq := by exact q_add64) (k := ?_)
  refine ra_first 4 [] [5, 6, 7, 8, 9, 10, 11] (hq := by exact q_cv (r := (t2.toNat : Int)) (by exact ti rfl) (by exact ti rfl) (by exact rfl) hcv2) (k := ?_)
  refine ra1 (i := 5) [6, 7, 8, 9, 10, 11] (h := ?_)
  refine r_call1 (c_plainL GW t2 32 (by decide) 2 (.inr rfl) (by omega)) (by exact rfl) (by exact rfl) (by exact rfl) (by simp) (by exact rfl) ?_
  refine sl_nil ?_
  refine sp_nx (k := ?_)
  refine ra1 (i := 6) [7, 8, 9, 10, 11] (h := ?_)
  refine r_callF (c_rput ⟨y0, o.d1⟩ hy0 hO.o1 (live_pos ⟨y0, o.d1⟩ true hO.h1.off) (plainA t2 (UInt16.ofNat 32) 2 (t2 - 1)) ⟨Nat.le_refl _, Nat.zero_le _⟩ hyc0 hoc1) (by exact rfl) (by exact rfl) (by exact rfl) (PhAll.all (by repeat' (first | trivial | apply And.intro | ((iterate 40 (first | exact .head _ | apply List.Mem.tail | skip)); done)))) (by exact rfl) ?_
  rintro _ _ ⟨b2, rfl, hb2, rfl⟩
  rw [he2]
  refine sl_nil ?_
  refine sp_nx (k := ?_)
  refine ra_first 7 [] [8, 9, 10, 11] (hq := by exact q_move) (k := ?_)
  refine ra_first 8 [] [9, 10, 11] (hq := by exact q_ext) (k := ?_)
  refine ra_first 9 [] [10, 11] (hq := by exact q_ext) (k := ?_)
  refine ra1 (i := 10) [11] (h := ?_)
  refine r_store_all (k := ?_)
  refine sl_nil ?_
  refine sp_nx (k := ?_)
  refine ra_first 11 [] [] (hq := by exact q_assign) (k := ?_)
  refine ra_done ?_
  refine sp_then ?_
  refine sw_seq ?_
  refine sw_seq ?_
  refine sw_region ?_
  refine r_move (k := ?_)
  refine r_neq (k := ?_)
  refine r_move (k := ?_)
  refine f_set [o.d1.rp, o.d1.rc, o.d1.rb, a2.d0.rp, a2.d0.rc, a2.d0.rb, b2.d1.rp, b2.d1.rc, b2.d1.rb, BS.nil.res] (fun V w hw φ hφ => hw φ ((PhAll.all (by repeat' (first | trivial | apply And.intro | ((iterate 40 (first | exact .head _ | apply List.Mem.tail | skip)); done)))) φ hφ)) ?_
  refine r_re (t := 97) (v' := vb false) rfl rfl ?_
  refine gd_yes (k := ?_)
  refine r_move (k := ?_)
  refine gd_yes (k := ?_)
  refine r_neq (k := ?_)
  refine rd_pick_f (k := ?_)
  refine sl_nil ?_
  refine sp_then ?_
  refine w_re (t := 100) (v' := vb false) rfl rfl ?_
  have hA0 : a2.d0.pure.holds 32 2 (goT (t0 % 4).toNat (t1 % 4).toNat (plainA t0 (UInt16.ofNat 32) 3 t0).pure (plainA t1 (UInt16.ofNat 32) 1 (t1 - 1)).pure) := by
    have e : a2.d0.pure = o.d0.pure.put (plainA t1 (UInt16.ofNat 32) 1 (t1 - 1)) true := ha2.e0
    rw [e]
    exact (holds_put hO.h0 (by decide) _ hr1 (by show (UInt16.ofNat 32).toNat = 32; decide)).congr fun m _ => by unfold goT oneT; rfl
  have hB1 : b2.d1.pure.holds 32 2 (goT (t0 % 4).toNat (t2 % 4).toNat (plainA t0 (UInt16.ofNat 32) 3 t0).pure (plainA t2 (UInt16.ofNat 32) 2 (t2 - 1)).pure) := by
    have e : b2.d1.pure = o.d1.pure.put (plainA t2 (UInt16.ofNat 32) 2 (t2 - 1)) true := hb2.e1
    rw [e]
    exact (holds_put hO.h1 (by decide) _ hr2 (by show (UInt16.ofNat 32).toNat = 32; decide)).congr fun m _ => by unfold goT oneT; rfl
  have q1 := mod4 t1
  have q2 := mod4 t2
  have q0 := mod4 t0
  refine swd_f (h := ?_)
  refine sw_skip ?_
  refine sp_then ?_
  refine sw_seq ?_
  refine sw_region ?_
  refine r_fieldAddr (k := ?_)
  refine r_idx_arr (k := ?_)
  refine r_load_agg (k := ?_)
  refine r_fieldAddr (k := ?_)
  refine r_idx_arr (k := ?_)
  refine r_load_agg (k := ?_)
  refine r_re (t := 103) (v' := a2.d0.v) rfl rfl ?_
  refine r_re (t := 106) (v' := b2.d1.v) rfl rfl ?_
  refine r_buildP (a2.d0.cs ++ b2.d1.cs) (parts := [(0, .tmp 103), (1, .tmp 106)]) (by exact rfl) (by kernel_rfl) (by exact rfl) ?_
  refine r_buildP (PairV.cs ⟨a2.d0, b2.d1⟩) (parts := [(0, .tmp 107), (1, .const (.int .i64 (-1)))]) (by exact rfl) (by kernel_rfl) (by exact rfl) ?_
  refine r_alloc (by exact z63) (by exact rfl) (by exact rfl) fun b13 => ?_
  refine r_store_all (k := ?_)
  refine sl_nil ?_
  refine sp_then ?_
  refine sw_seq ?_
  refine sw_region ?_
  refine r_load_all (k := ?_)
  refine r_callF (c_newestR ⟨a2.d0, b2.d1⟩ ha2.o0 hb2.o1) (by exact rfl) (by exact rfl) (by exact rfl) (PhAll.all (by repeat' (first | trivial | apply And.intro | ((iterate 40 (first | exact .head _ | apply List.Mem.tail | skip)); done)))) (by exact rfl) ?_
  rintro _ _ ⟨A, na, rfl, hA, nak, -, rfl⟩
  have hA8 : A.length = 8 := by have := congrArg List.length hA; simpa using this
  have k1 : newE (liveN ⟨a2.d0, b2.d1⟩) (NSt.all A) = 121 := by
    refine split_e (s0 := (t0 % 4).toNat) (P0 := (plainA t0 (UInt16.ofNat 32) 3 t0).pure) (P1 := (plainA t1 (UInt16.ofNat 32) 1 (t1 - 1)).pure) (P2 := (plainA t2 (UInt16.ofNat 32) 2 (t2 - 1)).pure) (live_pos ⟨a2.d0, b2.d1⟩ false hA0.off) (fun m hm => ?_) (fun m hm => ?_) q1 q2 ?_ ?_ rfl rfl
    · exact (at_get hA false hm).trans (hA0.slot m hm)
    · exact (at_get hA true hm).trans (hB1.slot m hm)
    · show t0.toNat < t1.toNat; omega
    · show t0.toNat < t2.toNat; omega
  rw [k1]
  refine r_move (k := ?_)
  refine r_ext (k := ?_)
  refine r_ext (k := ?_)
  refine r_ext (k := ?_)
  refine r_alloc (by exact z32) (cs := zeroA.cs) (by kernel_rfl) (by exact rfl) fun b14 => ?_
  refine r_store_all (cs := zeroA.cs) (vs := na.cs) (by exact tz rfl) (by exact rfl) (by exact rfl) (by iterate 24 (first | exact .hd | apply Upd.tl | skip)) rfl rfl rfl rfl ?_
  refine r_assign (k := ?_)
  refine r_assign (k := ?_)
  refine sl_nil ?_
  refine sp_then ?_
  refine sw_seq ?_
  refine sw_thenE (ι := { x : DiskV × Nat // x.1.ok ∧ x.1.pure = o.d1.pure.flush }) (fun x => [(0, vi (j0 : Int)), (1, vi (j1 : Int)), (16, vi 121), (17, .pointer (some ⟨x.1.2, 0, none⟩))]) (fun x => [.box x.1.2 (PairV.cs ⟨a2.d0, x.1.1⟩) 63, .box b14 na.cs 32, .box b13 (PairV.cs ⟨a2.d0, b2.d1⟩) 63, .box b10 a2.cs 63, .box b11 b2.cs 63, .box b8 o.cs 63, .box b7 p.cs 63])
    (fun x => [a2.d0.rp, a2.d0.rc, a2.d0.rb, x.1.1.rp, x.1.1.rc, x.1.1.rb]) [] ?_ fun x => ?_
  · 
    refine sw_draw [(none, .box b10 a2.cs 63), (none, .box b8 o.cs 63)] [] [0, 1, 2, 3, 4, 5, 6, 7, 8, 9, 10] mix (by kernel_rfl) rfl ?_
    refine ra_first 0 [] [1, 2, 3, 4, 5, 6, 7, 8, 9, 10] (hq := by exact q_fieldAddr) (k := ?_)
    refine ra_first 1 [] [2, 3, 4, 5, 6, 7, 8, 9, 10] (hq := by exact q_idx_arr (i := 0) (m := 0) (by exact ta rfl) (by exact rfl) (by exact rfl) (by decide) (by decide) rfl) (k := ?_)
    refine ra_first 2 [(none, .box b10 a2.cs 63), (none, .box b8 o.cs 63)] [3, 4, 5, 6, 7, 8, 9, 10] (hq := by exact q_load_agg (vs := a2.d0.cs) (by exact tz rfl) (by exact rfl) (.head _) rfl rfl) (k := ?_)
    refine ra_first 3 [] [4, 5, 6, 7, 8, 9, 10] (hq := by exact q_fieldAddr) (k := ?_)
    refine ra_first 4 [] [5, 6, 7, 8, 9, 10] (hq := by exact q_idx_arr (i := 1) (m := 1) (by exact ta rfl) (by exact rfl) (by exact rfl) (by decide) (by decide) rfl) (k := ?_)
    refine ra_first 5 [(none, .box b10 a2.cs 63), (none, .box b8 o.cs 63)] [6, 7, 8, 9, 10] (hq := by exact q_load_agg (vs := o.d1.cs) (by exact tz rfl) (by exact rfl) (.tail _ (.head _)) rfl rfl) (k := ?_)
    refine ra2 (i := 6) (j := 9) [7, 8, 9, 10] [6, 7, 8, 10] (by kernel_rfl) rfl rfl rfl rfl ?_ ?_
    · 
      refine r_callF (c_flushed GW o.d1 hO.o1 hO.h1.off hO.h1.bad) (by exact rfl) (by exact rfl) (by exact rfl) (PhAll.all (by repeat' (first | trivial | apply And.intro | ((iterate 40 (first | exact .head _ | apply List.Mem.tail | skip)); done)))) (by exact rfl) ?_
      rintro _ _ ⟨x, rfl, hx, hxp, rfl⟩
      refine sl_nil ?_
      refine sp_nx (k := ?_)
      refine ra_first 7 [] [8, 9, 10] (hq := by exact q_buildP (a2.d0.cs ++ x.cs) (parts := [(0, .tmp 117), (1, .tmp 121)]) (by exact rfl) (by kernel_rfl)) (k := ?_)
      refine ra_first 8 [] [9, 10] (hq := by exact q_buildP (PairV.cs ⟨a2.d0, x⟩) (parts := [(0, .tmp 122), (1, .const (.int .i64 (-1)))]) (by exact rfl) (by kernel_rfl)) (k := ?_)
      refine ra1 (i := 9) [10] (h := ?_)
      refine r_alloc (by exact z63) (by exact rfl) (by exact rfl) fun b17 => ?_
      refine sl_nil ?_
      refine sp_nx (k := ?_)
      refine ra1 (i := 10) [] (h := ?_)
      refine r_store_all (k := ?_)
      refine sl_nil ?_
      refine sp_nx (k := ?_)
      refine ra_done ?_
      exact sp_cutE ⟨(x, b17), hx, hxp⟩ (by repeat' (first | trivial | exact rfl | apply And.intro)) (by repeat' (first | trivial | apply And.intro | ((iterate 40 (first | exact .head _ | apply List.Mem.tail | skip)); done))) rfl
    · 
      refine r_alloc (by exact z63) (by exact rfl) (by exact rfl) fun b17 => ?_
      refine sl_nil ?_
      refine sp_nx (k := ?_)
      refine ra1 (i := 6) [7, 8, 10] (h := ?_)
      refine r_callF (c_flushed GW o.d1 hO.o1 hO.h1.off hO.h1.bad) (by exact rfl) (by exact rfl) (by exact rfl) (PhAll.all (by repeat' (first | trivial | apply And.intro | ((iterate 40 (first | exact .head _ | apply List.Mem.tail | skip)); done)))) (by exact rfl) ?_
      rintro _ _ ⟨x, rfl, hx, hxp, rfl⟩
      refine sl_nil ?_
      refine sp_nx (k := ?_)
      refine ra_first 7 [] [8, 10] (hq := by exact q_buildP (a2.d0.cs ++ x.cs) (parts := [(0, .tmp 117), (1, .tmp 121)]) (by exact rfl) (by kernel_rfl)) (k := ?_)
      refine ra_first 8 [] [10] (hq := by exact q_buildP (PairV.cs ⟨a2.d0, x⟩) (parts := [(0, .tmp 122), (1, .const (.int .i64 (-1)))]) (by exact rfl) (by kernel_rfl)) (k := ?_)
      refine ra1 (i := 10) [] (h := ?_)
      refine r_store_all (k := ?_)
      refine sl_nil ?_
      refine sp_nx (k := ?_)
      refine ra_done ?_
      exact sp_cutE ⟨(x, b17), hx, hxp⟩ (by repeat' (first | trivial | exact rfl | apply And.intro)) (by repeat' (first | trivial | apply And.intro | ((iterate 40 (first | exact .head _ | apply List.Mem.tail | skip)); done))) rfl
  obtain ⟨⟨F, b17⟩, hF, hFp⟩ := x
  dsimp only at hF hFp ⊢
  obtain ⟨hF1, hFb⟩ := holds_flush hO.h1
  rw [← hFp] at hF1 hFb
  refine sw_seq ?_
  refine sw_region ?_
  refine r_load_all (k := ?_)
  refine r_callF (c_newestR ⟨a2.d0, F⟩ ha2.o0 hF) (by exact rfl) (by exact rfl) (by exact rfl) (PhAll.all (by repeat' (first | trivial | apply And.intro | ((iterate 40 (first | exact .head _ | apply List.Mem.tail | skip)); done)))) (by exact rfl) ?_
  rintro _ _ ⟨A2, xa, rfl, hA2, xak, hxa, rfl⟩
  have hA28 : A2.length = 8 := by have := congrArg List.length hA2; simpa using this
  have hal : ∀ A3 : List AncV, A3.map AncV.pure = (List.range 4).map a2.d0.pure.slot ++ (List.range 4).map F.pure.slot → newE (liveN ⟨a2.d0, F⟩) (NSt.all A3) = 0 ∧ (NSt.all A3).a.tx.toNat = t1.toNat ∧ ∀ m, m < 4 → voidA A3 false m = false := fun A3 h3 => by
    have h38 : A3.length = 8 := by have := congrArg List.length h3; simpa using this
    refine alone_e (P0 := (plainA t0 (UInt16.ofNat 32) 3 t0).pure) (P1 := (plainA t1 (UInt16.ofNat 32) 1 (t1 - 1)).pure) (live_pos ⟨a2.d0, F⟩ false hA0.off) h38 (fun m hm => (at_get (p := ⟨a2.d0, F⟩) h3 false hm).trans (hA0.slot m hm)) (fun m hm => ((at_get (p := ⟨a2.d0, F⟩) h3 true hm).trans (hF1.slot m hm)).trans (oneT_go 32 t0 m)) q0 q1 ?_ ?_ rfl rfl
    · show t0.toNat < t1.toNat; omega
    · show 0 < t0.toNat; omega
  obtain ⟨m1, m2, -⟩ := hal A2 hA2
  have hxt : xa.tx.toNat = t1.toNat := by rw [hxa m1]; exact m2
  rw [m1]
  refine r_move (k := ?_)
  refine r_ext (k := ?_)
  refine r_ext (k := ?_)
  refine r_ext (k := ?_)
  refine r_alloc (by exact z32) (cs := zeroA.cs) (by kernel_rfl) (by exact rfl) fun b18 => ?_
  refine r_store_all (cs := zeroA.cs) (vs := xa.cs) (by exact tz rfl) (by exact rfl) (by exact rfl) (by iterate 24 (first | exact .hd | apply Upd.tl | skip)) rfl rfl rfl rfl ?_
  refine r_assign (k := ?_)
  refine r_assign (k := ?_)
  refine sl_nil ?_
  refine sp_then ?_
  refine sw_seq ?_
  refine sw_region ?_
  refine r_load_all (k := ?_)
  refine r_callF (c_renew1 ⟨a2.d0, F⟩ ha2.o0 hF hA0.off hF1.off hA0.bad hF1.bad (by rw [show F.cache.xs = [] from hFb.c]; exact Nat.zero_lt_succ _)) (by exact rfl) (by exact rfl) (by exact rfl) (PhAll.all (by repeat' (first | trivial | apply And.intro | ((iterate 40 (first | exact .head _ | apply List.Mem.tail | skip)); done)))) (by exact rfl) ?_
  rintro _ _ ⟨A3, r, rfl, hA3, hr, er0, er1, rfl⟩
  obtain ⟨-, -, hvd⟩ := hal A3 hA3
  have hrs : ∀ k, k < 4 → r.d1.pure.slot k = r.d0.pure.slot k := fun k hk => renewed (p := ⟨a2.d0, F⟩) hA3 hA0.fine hF1.fine hA0.off hF1.off hA0.bad hF1.bad (hA0.len.trans hF1.len.symm) (by rw [show F.cache.xs = [] from hFb.c]; exact Nat.zero_lt_succ _) hvd er0 er1 hk
  refine r_move (k := ?_)
  refine r_ext (k := ?_)
  refine r_ext (k := ?_)
  refine r_alloc (by exact z63) (by exact rfl) (by exact rfl) fun b21 => ?_
  refine r_store_all (k := ?_)
  refine r_assign (k := ?_)
  refine sl_nil ?_
  refine sp_then ?_
  refine sw_seq ?_
  refine sw_region ?_
  refine r_load_all (k := ?_)
  refine r_callF (c_slots r (hr false) (hr true)) (by exact rfl) (by exact rfl) (by exact rfl) (PhAll.all (by repeat' (first | trivial | apply And.intro | ((iterate 40 (first | exact .head _ | apply List.Mem.tail | skip)); done)))) (by exact rfl) ?_
  rintro _ _ ⟨A4, rfl, hA4, -, rfl⟩
  have hA48 : A4.length = 8 := by have := congrArg List.length hA4; simpa using this
  have hl4 : (ancsV A4).length = 112 := by rw [ancsV_len, hA48]
  refine r_alloc (v := .agg (ancsV (List.replicate 8 zeroA)).toArray) (by kernel_rfl) (cs := ancsV (List.replicate 8 zeroA)) rfl (by exact rfl) fun b23 => ?_
  refine r_store_all (cs := ancsV (List.replicate 8 zeroA)) (vs := ancsV A4) (by exact tz rfl) (by exact rfl) (by exact rfl) (by iterate 24 (first | exact .hd | apply Upd.tl | skip)) rfl hl4 (ancsV_one A4) rfl ?_
  refine sl_nil ?_
  refine sp_then ?_
  refine sw_seq ?_
  refine sw_seq ?_
  refine sw_region ?_
  refine r_move (k := ?_)
  refine r_neq (k := ?_)
  refine r_move (k := ?_)
  refine r_re (t := 139) (v' := vb false) rfl rfl ?_
  refine gd_yes (k := ?_)
  refine r_move (k := ?_)
  refine gd_yes (k := ?_)
  refine r_neq (k := ?_)
  refine rd_pick_f (k := ?_)
  refine r_move (k := ?_)
  refine r_re (t := 143) (v' := vb false) rfl rfl ?_
  refine gd_yes (k := ?_)
  refine r_fieldAddr (k := ?_)
  refine gd_yes (k := ?_)
  refine r_load_one (k := ?_)
  refine gd_yes (k := ?_)
  refine r_move (k := ?_)
  refine gd_yes (k := ?_)
  refine r_move (k := ?_)
  refine gd_yes (k := ?_)
  refine r_add64 (k := ?_)
  refine gd_yes (k := ?_)
  refine r_cv (r := (t1.toNat : Int)) (by exact ti rfl) (by exact ti rfl) (by exact rfl) hcv1 (by exact rfl) ?_
  refine gd_yes (k := ?_)
  refine r_neq (k := ?_)
  refine rd_pick_f (k := ?_)
  refine r_move (k := ?_)
  refine r_re (t := 152) (v' := vb false) rfl (by simp [hxt]) ?_
  refine gd_yes (k := ?_)
  refine r_move (k := ?_)
  refine gd_yes (k := ?_)
  refine r_neq (k := ?_)
  refine rd_pick_f (k := ?_)
  refine sl_nil ?_
  refine sp_then ?_
  refine w_re (t := 155) (v' := vb false) rfl rfl ?_
  refine swd_f (h := ?_)
  refine sw_skip ?_
  refine sp_then ?_
  refine sw_seq ?_
  refine sw_seq ?_
  refine sw_region ?_
  refine r_assign (k := ?_)
  refine sl_nil ?_
  refine sp_then ?_
  refine sw_block ?_
  refine sw_loop (ι := { k : Nat // k ≤ 4 }) (fun k => [(23, .pointer (some ⟨b23, 0, none⟩)), (24, vi (k.1 : Int))]) (fun _ => [.box b23 (ancsV A4) 73, .box b21 r.cs 63, .box b18 xa.cs 32, .box b17 (PairV.cs ⟨a2.d0, F⟩) 63, .box b14 na.cs 32, .box b13 (PairV.cs ⟨a2.d0, b2.d1⟩) 63, .box b10 a2.cs 63, .box b11 b2.cs 63, .box b8 o.cs 63, .box b7 p.cs 63])
    (fun _ => [keysR A4]) (fun _ => []) (fun k => 4 - k.1) ⟨0, by omega⟩ ?_ fun k => ?_
  · exact Ent.mk' (by repeat' (first | trivial | exact rfl | apply And.intro)) (by repeat' (first | trivial | apply And.intro | ((iterate 40 (first | exact .head _ | apply List.Mem.tail | skip)); done)))
  obtain ⟨k, hk⟩ := k
  dsimp only
  refine sw_seq ?_
  refine sw_seq ?_
  refine sw_region ?_
  refine r_move (k := ?_)
  refine r_lss (k := ?_)
  refine sl_nil ?_
  refine sp_then ?_
  refine sw_cond rfl (fun h => ?_) (fun h => ?_)
  · have h := of_decide_eq_true h
    have hk' : k < 4 := by omega
    have hin : ∀ b, atA A4 b k ∈ A4 := fun b => by
      rw [atA, List.getD_eq_getElem?_getD, List.getElem?_eq_getElem (by cases b <;> simp [bN] <;> omega)]
      exact List.getElem_mem _
    have hrow : ∀ b, part' (ancsV A4) (bN b * 56 + k * 14) 14 = (atA A4 b k).cs := fun b => by
      rw [show bN b * 56 + k * 14 = (bN b * 4 + k) * 14 by omega, ancsV_at A4 (bN b * 4 + k) (by cases b <;> simp [bN] <;> omega), atA, List.getD_eq_getElem?_getD, List.getElem?_eq_getElem (by cases b <;> simp [bN] <;> omega)]
      rfl
    have hsm : sameV (atA A4 false k) (atA A4 true k) = true := by
      rw [sameV_iff, at_get hA4 false hk', at_get hA4 true hk']
      exact (hrs k hk').symm
    refine sw_skip ?_
    refine sp_then ?_
    refine sw_seq ?_
    refine sw_block ?_
    refine sw_seq ?_
    refine w_have (φ := (atA A4 false k).mark.key.res) (fun V w hw => hw (keysR A4) (.head _) _ (hin false)) ?_
    refine w_have (φ := (atA A4 true k).mark.key.res) (fun V w hw => hw (keysR A4) (.tail _ (.head _)) _ (hin true)) ?_
    
    refine sw_draw [(none, .box b23 (ancsV A4) 73)] [] [0, 1, 2, 3, 4, 5, 6, 7, 8, 9] mix (by kernel_rfl) rfl ?_
    refine ra_first 0 [] [1, 2, 3, 4, 5, 6, 7, 8, 9] (hq := by exact q_move) (k := ?_)
    refine ra_first 1 [] [2, 3, 4, 5, 6, 7, 8, 9] (hq := by exact q_idx_arr (i := 0) (m := 0) (by exact ta rfl) (by exact rfl) (by exact rfl) (by decide) (by decide) rfl) (k := ?_)
    refine ra_first 2 [] [3, 4, 5, 6, 7, 8, 9] (hq := by exact q_idx_arr (i := k) (m := (k : Int)) (by exact ta rfl) (by exact rfl) (by exact rfl) (by omega) (by omega) (Int.toNat_natCast k)) (k := ?_)
    refine ra_first 3 [(none, .box b23 (ancsV A4) 73)] [4, 5, 6, 7, 8, 9] (hq := by exact q_load_agg (vs := (atA A4 false k).cs) (by exact tz rfl) (by exact rfl) (.head _) (by rw [show 0 + 0 * 56 + k * 14 = bN false * 56 + k * 14 by simp [bN]]; exact hrow false) rfl) (k := ?_)
    refine ra_first 4 [] [5, 6, 7, 8, 9] (hq := by exact q_move) (k := ?_)
    refine ra_first 5 [] [6, 7, 8, 9] (hq := by exact q_idx_arr (i := 1) (m := 1) (by exact ta rfl) (by exact rfl) (by exact rfl) (by decide) (by decide) rfl) (k := ?_)
    refine ra_first 6 [] [7, 8, 9] (hq := by exact q_idx_arr (i := k) (m := (k : Int)) (by exact ta rfl) (by exact rfl) (by exact rfl) (by omega) (by omega) (Int.toNat_natCast k)) (k := ?_)
    refine ra_first 7 [(none, .box b23 (ancsV A4) 73)] [8, 9] (hq := by exact q_load_agg (vs := (atA A4 true k).cs) (by exact tz rfl) (by exact rfl) (.head _) (by rw [show 0 + 1 * 56 + k * 14 = bN true * 56 + k * 14 by simp [bN]]; exact hrow true) rfl) (k := ?_)
    refine ra1 (i := 8) [9] (h := ?_)
    refine r_call1 (c_rsame GW (atA A4 false k) (atA A4 true k)) (by exact rfl) (by exact rfl) (by exact rfl) (PhAll.all (by repeat' (first | trivial | apply And.intro | ((iterate 40 (first | exact .head _ | apply List.Mem.tail | skip)); done)))) (by exact rfl) ?_
    rw [hsm]
    refine sl_nil ?_
    refine sp_nx (k := ?_)
    refine ra_first 9 [] [] (hq := by exact q_not) (k := ?_)
    refine ra_done ?_
    refine sp_then ?_
    refine swd_f (h := ?_)
    refine sw_skip ?_
    refine sp_block ?_
    refine sp_then ?_
    refine sw_region ?_
    refine r_move (k := ?_)
    refine r_add64 (k := ?_)
    refine r_assign (k := ?_)
    refine sl_nil ?_
    refine sp_loop (ι := { k : Nat // k ≤ 4 }) ⟨k + 1, by omega⟩ ?_ ?_
    · dsimp only; omega
    · exact Ent.mk' (by repeat' (first | trivial | exact rfl | apply And.intro)) (by repeat' (first | trivial | apply And.intro | ((iterate 40 (first | exact .head _ | apply List.Mem.tail | skip)); done)))
  have h := of_decide_eq_false h
  refine sw_exit ?_
  refine sp_then_exit ?_
  refine sp_loop_exit ?_
  refine sp_block_exit ?_
  refine sp_then ?_
  refine sw_seq ?_
  refine sw_region ?_
  refine r_call1 c_wakes12 (by exact rfl) (by exact rfl) (by exact rfl) (by simp) (by exact rfl) ?_
  refine r_assign (k := ?_)
  refine sl_nil ?_
  refine sp_then ?_
  refine sw_ret ?_
  refine sp_retv rfl rfl (.tmp rfl) rfl rfl ⟨rfl, rfl, rfl⟩ (by simp) rfl (by simp)
end Go.Proofs.YtjahiohlekdhoaaDoor
