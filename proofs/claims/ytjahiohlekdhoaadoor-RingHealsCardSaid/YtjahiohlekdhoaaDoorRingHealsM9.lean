/-
  The walk of the law RingHeals.
-/
import Derived.Test.YtjahiohlekdhoaaDoorRingHealsM8
import Derived.Test.YtjahiohlekdhoaaDoorRingHealsM7
namespace Go.Proofs.YtjahiohlekdhoaaDoor
open Go
set_option maxHeartbeats 4000000
set_option maxRecDepth 4000
attribute [local irreducible] SW SL SP RA Then FQ IQ LoopQ RQ AQ NX CutQ Exit.noGoto
attribute [local irreducible] CutE

theorem detach_fresh {d : DiskP} {n i : Nat} {T : Nat → AncP} (h : d.holds n i T) (hp : d.pages = (DiskP.fresh n).pages) : d.detach = (DiskP.fresh n).detach := by
  unfold DiskP.detach; rw [hp, h.bad]; rfl
theorem c_lawHeals (size : Int) (s : Sl Int) (one : Int) : Ctr Tryd.prog GW 11 [vi size, s.v, vi one] [] [Res.mem s.ba (isV s.xs)] (ret1 (vb true)) := by
  obtain ⟨ba, cap, xs⟩ := s
  have hil : (isV xs).length = xs.length := isV_len xs
  refine Ctr.intro Tryd.func11 (by kernel_rfl) rfl Tryd.ntmps11 rfl rfl rfl fun w' X => ?_
  refine sw_seq ?_
  refine sw_region ?_
  refine r_assign (k := ?_)
  refine sl_nil ?_
  refine sp_then ?_
  refine sw_seq ?_
  refine sw_seq ?_
  refine sw_region ?_
  refine r_move (k := ?_)
  refine r_lss (k := ?_)
  refine r_move (k := ?_)
  by_cases g0 : size < 32
  · refine r_re (t := 23) (v' := vb true) rfl (by rw [decide_eq_true g0]) ?_
    refine gd_no (k := ?_)
    refine gd_no (k := ?_)
    refine rd_pick_t (k := ?_)
    refine r_move (k := ?_)
    refine gd_no (k := ?_)
    refine gd_no (k := ?_)
    refine gd_no (k := ?_)
    refine rd_pick_t (k := ?_)
    refine r_move (k := ?_)
    refine gd_no (k := ?_)
    refine gd_no (k := ?_)
    refine gd_no (k := ?_)
    refine rd_pick_t (k := ?_)
    refine sl_nil ?_
    refine sp_then ?_
    refine swd_t (h := ?_)
    refine sw_seq ?_
    refine sw_region ?_
    refine r_call1 c_wakes12 (by exact rfl) (by exact rfl) (by exact rfl) (by simp) (by exact rfl) ?_
    refine r_assign (k := ?_)
    refine sl_nil ?_
    refine sp_then ?_
    refine sw_ret ?_
    refine sp_then_ret ?_
    refine sp_retv rfl rfl (.tmp rfl) rfl rfl ⟨rfl, rfl, rfl⟩ (by simp) rfl (by simp)
  refine r_re (t := 23) (v' := vb false) rfl (by rw [decide_eq_false g0]) ?_
  refine gd_yes (k := ?_)
  refine r_move (k := ?_)
  refine gd_yes (k := ?_)
  refine r_gtr (k := ?_)
  refine rd_pick_f (k := ?_)
  refine r_move (k := ?_)
  by_cases g1 : 64 < size
  · refine r_re (t := 27) (v' := vb true) rfl (by rw [decide_eq_true g1]) ?_
    refine gd_no (k := ?_)
    refine gd_no (k := ?_)
    refine gd_no (k := ?_)
    refine rd_pick_t (k := ?_)
    refine r_move (k := ?_)
    refine gd_no (k := ?_)
    refine gd_no (k := ?_)
    refine gd_no (k := ?_)
    refine rd_pick_t (k := ?_)
    refine sl_nil ?_
    refine sp_then ?_
    refine swd_t (h := ?_)
    refine sw_seq ?_
    refine sw_region ?_
    refine r_call1 c_wakes12 (by exact rfl) (by exact rfl) (by exact rfl) (by simp) (by exact rfl) ?_
    refine r_assign (k := ?_)
    refine sl_nil ?_
    refine sp_then ?_
    refine sw_ret ?_
    refine sp_then_ret ?_
    refine sp_retv rfl rfl (.tmp rfl) rfl rfl ⟨rfl, rfl, rfl⟩ (by simp) rfl (by simp)
  refine r_re (t := 27) (v' := vb false) rfl (by rw [decide_eq_false g1]) ?_
  refine gd_yes (k := ?_)
  refine r_move (k := ?_)
  refine gd_yes (k := ?_)
  refine r_len (k := ?_)
  refine gd_yes (k := ?_)
  refine r_lss (k := ?_)
  refine rd_pick_f (k := ?_)
  refine r_move (k := ?_)
  by_cases g2 : (xs.length : Int) < 1
  · refine r_re (t := 32) (v' := vb true) rfl (by rw [decide_eq_true g2]) ?_
    refine gd_no (k := ?_)
    refine gd_no (k := ?_)
    refine gd_no (k := ?_)
    refine rd_pick_t (k := ?_)
    refine sl_nil ?_
    refine sp_then ?_
    refine swd_t (h := ?_)
    refine sw_seq ?_
    refine sw_region ?_
    refine r_call1 c_wakes12 (by exact rfl) (by exact rfl) (by exact rfl) (by simp) (by exact rfl) ?_
    refine r_assign (k := ?_)
    refine sl_nil ?_
    refine sp_then ?_
    refine sw_ret ?_
    refine sp_then_ret ?_
    refine sp_retv rfl rfl (.tmp rfl) rfl rfl ⟨rfl, rfl, rfl⟩ (by simp) rfl (by simp)
  refine r_re (t := 32) (v' := vb false) rfl (by rw [decide_eq_false g2]) ?_
  refine gd_yes (k := ?_)
  refine r_move (k := ?_)
  refine gd_yes (k := ?_)
  refine r_len (k := ?_)
  refine gd_yes (k := ?_)
  refine r_gtr (k := ?_)
  refine rd_pick_f (k := ?_)
  refine sl_nil ?_
  refine sp_then ?_
  by_cases g3 : (6 : Int) < (xs.length : Int)
  · refine w_re (t := 36) (v' := vb true) rfl (by rw [decide_eq_true g3]) ?_
    refine swd_t (h := ?_)
    refine sw_seq ?_
    refine sw_region ?_
    refine r_call1 c_wakes12 (by exact rfl) (by exact rfl) (by exact rfl) (by simp) (by exact rfl) ?_
    refine r_assign (k := ?_)
    refine sl_nil ?_
    refine sp_then ?_
    refine sw_ret ?_
    refine sp_then_ret ?_
    refine sp_retv rfl rfl (.tmp rfl) rfl rfl ⟨rfl, rfl, rfl⟩ (by simp) rfl (by simp)
  refine w_re (t := 36) (v' := vb false) rfl (by rw [decide_eq_false g3]) ?_
  obtain ⟨n, rfl⟩ : ∃ n : Nat, size = (n : Int) := ⟨size.toNat, by omega⟩
  have hn0 : 32 ≤ n := by omega
  have hn1 : n ≤ 64 := by omega
  refine swd_f (h := ?_)
  refine sw_skip ?_
  refine sp_then ?_
  refine sw_seq ?_
  refine sw_region ?_
  refine r_move (k := ?_)
  refine r_callF (c_pair GW n hn0 hn1) (by exact rfl) (by exact rfl) (by exact rfl) (by simp) (by exact rfl) ?_
  rintro _ _ ⟨p0, rfl, ⟨ho0, ho1⟩, hp0, hp1, rfl⟩
  refine r_alloc (by exact z63) (by exact rfl) (by exact rfl) fun b7 => ?_
  refine r_store_all (k := ?_)
  refine sl_nil ?_
  refine sp_then ?_
  refine sw_seq ?_
  refine sw_region ?_
  refine r_assign (k := ?_)
  refine sl_nil ?_
  refine sp_then ?_
  refine sw_seq ?_
  refine sw_region ?_
  refine r_move (k := ?_)
  refine r_andI1 (by exact rfl) (by exact rfl) (by exact rfl) ?_
  obtain ⟨k, hk⟩ : ∃ k : Bool, one % 2 = ib k := by
    by_cases e : one % 2 = 0
    · exact ⟨false, e⟩
    · exact ⟨true, by show one % 2 = 1; omega⟩
  rw [hk]
  have hib : 0 ≤ ib k ∧ ib k ≤ 1 := by cases k <;> decide
  refine r_assign (k := ?_)
  refine sl_nil ?_
  refine sp_then ?_
  refine sw_seq ?_
  refine sw_seq ?_
  refine sw_region ?_
  refine r_assign (k := ?_)
  refine sl_nil ?_
  refine sp_then ?_
  refine sw_block ?_
  refine w_have (φ := BS.nil.res) (fun V w _ i v hv => by simp [BS.nil, bv] at hv) ?_
  refine sw_loop (ι := { q : Nat × UInt32 × (Nat → UInt32) × PairV // q.1 ≤ xs.length ∧ HealL n xs.length k q.1 q.2.1 q.2.2.1 q.2.2.2 })
    (fun q => [(0, vi (n : Int)), (1, .slice ba xs.length cap), (2, vi (ib k)), (7, .pointer (some ⟨b7, 0, none⟩)), (8, v32 q.1.2.1), (9, vi (q.1.1 : Int))])
    (fun q => [.box b7 q.1.2.2.2.cs 63]) (fun q => [q.1.2.2.2.d0.rp, q.1.2.2.2.d0.rc, q.1.2.2.2.d0.rb, q.1.2.2.2.d1.rp, q.1.2.2.2.d1.rc, q.1.2.2.2.d1.rb, BS.nil.res, Res.mem ba (isV xs)]) (fun _ => []) (fun q => xs.length - q.1.1)
    ⟨(0, 0, fun _ => 0, p0), Nat.zero_le _, ?_⟩ ?_ fun q => ?_
  · have hf := holds_fresh hn0 hn1
    have e : ∀ b, (p0.get b).pure = DiskP.fresh n := fun b => by cases b; exact hp0; exact hp1
    refine ⟨fun b => by cases b; exact ho0; exact ho1, Nat.zero_le _, fun m _ => Nat.zero_le _, fun h => absurd h (Nat.lt_irrefl 0), by rw [e]; exact hf.congr fun m _ => rfl, ?_⟩
    dsimp only
    rw [if_pos (by omega), e]
    exact ⟨hf.congr fun m _ => rfl, rfl⟩
  · exact Ent.mk' (by repeat' (first | trivial | exact rfl | apply And.intro)) (by repeat' (first | trivial | exact .head _ | apply And.intro | apply List.Mem.tail))
  obtain ⟨⟨i, tx, f, p⟩, hi, hr⟩ := q
  dsimp only at hi hr ⊢
  refine sw_seq ?_
  refine sw_seq ?_
  refine sw_region ?_
  refine r_move (k := ?_)
  refine r_move (k := ?_)
  refine r_len (k := ?_)
  refine r_lss (k := ?_)
  refine sl_nil ?_
  refine sp_then ?_
  refine sw_cond rfl (fun h => ?_) (fun h => ?_)
  · have h := of_decide_eq_true h
    have hi' : i < xs.length := by omega
    have hld : (isV xs)[i * 1]? = some (vi xs[i]) := by rw [Nat.mul_one, isV, List.getElem?_map, List.getElem?_eq_getElem hi']; rfl
    refine sw_skip ?_
    refine sp_then ?_
    refine sw_seq ?_
    refine sw_block ?_
    refine sw_seq ?_
    refine sw_seq ?_
    refine sw_region ?_
    refine r_move (k := ?_)
    refine r_move (k := ?_)
    refine r_idx (k := ?_)
    refine r_load_mem1 (v := vi xs[i]) (cs := isV xs) (by exact tz rfl) (by exact rfl) (by iterate 24 (first | exact .head _ | apply List.Mem.tail | skip)) hld (by exact rfl) ?_
    refine r_lss (k := ?_)
    refine r_move (k := ?_)
    by_cases r0 : xs[i] < 1
    · refine r_re (t := 53) (v' := vb true) rfl (by rw [decide_eq_true r0]) ?_
      refine gd_no (k := ?_)
      refine gd_no (k := ?_)
      refine gd_no (k := ?_)
      refine gd_no (k := ?_)
      refine gd_no (k := ?_)
      refine rd_pick_t (k := ?_)
      refine sl_nil ?_
      refine sp_then ?_
      refine swd_t (h := ?_)
      refine sw_seq ?_
      refine sw_region ?_
      refine r_call1 c_wakes12 (by exact rfl) (by exact rfl) (by exact rfl) (by simp) (by exact rfl) ?_
      refine r_assign (k := ?_)
      refine sl_nil ?_
      refine sp_then ?_
      refine sw_ret ?_
      refine sp_then_ret ?_
      refine sp_block_ret ?_
      refine sp_then_ret ?_
      refine sp_loop_ret ?_
      refine sp_block_ret ?_
      refine sp_then_ret ?_
      refine sp_retv rfl rfl (.tmp rfl) rfl rfl ⟨rfl, rfl, rfl⟩ (by simp) rfl (by simp)
    refine r_re (t := 53) (v' := vb false) rfl (by rw [decide_eq_false r0]) ?_
    refine gd_yes (k := ?_)
    refine r_move (k := ?_)
    refine gd_yes (k := ?_)
    refine r_move (k := ?_)
    refine gd_yes (k := ?_)
    refine r_idx (k := ?_)
    refine gd_yes (k := ?_)
    refine r_load_mem1 (v := vi xs[i]) (cs := isV xs) (by exact tz rfl) (by exact rfl) (by iterate 24 (first | exact .head _ | apply List.Mem.tail | skip)) hld (by exact rfl) ?_
    refine gd_yes (k := ?_)
    refine r_gtr (k := ?_)
    refine rd_pick_f (k := ?_)
    refine sl_nil ?_
    refine sp_then ?_
    by_cases r1 : 100 < xs[i]
    · refine w_re (t := 59) (v' := vb true) rfl (by rw [decide_eq_true r1]) ?_
      refine swd_t (h := ?_)
      refine sw_seq ?_
      refine sw_region ?_
      refine r_call1 c_wakes12 (by exact rfl) (by exact rfl) (by exact rfl) (by simp) (by exact rfl) ?_
      refine r_assign (k := ?_)
      refine sl_nil ?_
      refine sp_then ?_
      refine sw_ret ?_
      refine sp_then_ret ?_
      refine sp_block_ret ?_
      refine sp_then_ret ?_
      refine sp_loop_ret ?_
      refine sp_block_ret ?_
      refine sp_then_ret ?_
      refine sp_retv rfl rfl (.tmp rfl) rfl rfl ⟨rfl, rfl, rfl⟩ (by simp) rfl (by simp)
    refine w_re (t := 59) (v' := vb false) rfl (by rw [decide_eq_false r1]) ?_
    refine swd_f (h := ?_)
    refine sw_skip ?_
    refine sp_then ?_
    refine sw_seq ?_
    refine sw_region ?_
    refine r_move (k := ?_)
    refine r_move (k := ?_)
    refine r_move (k := ?_)
    refine r_idx (k := ?_)
    refine r_load_mem1 (v := vi xs[i]) (cs := isV xs) (by exact tz rfl) (by exact rfl) (by iterate 24 (first | exact .head _ | apply List.Mem.tail | skip)) hld (by exact rfl) ?_
    obtain ⟨j, hj⟩ : ∃ j : Nat, xs[i] = (j : Int) := ⟨xs[i].toNat, by omega⟩
    rw [hj] at r0 r1 ⊢
    have hj32 : (UInt32.ofNat j).toNat = j := by simp; omega
    refine r_cv (r := ((UInt32.ofNat j).toNat : Int)) (by exact ti rfl) (by exact ti rfl) (by exact rfl) (by rw [IntKind.wrap_u32, hj32]; omega) (by exact rfl) ?_
    refine r_add32 (k := ?_)
    refine r_assign (k := ?_)
    refine sl_nil ?_
    refine sp_then ?_
    refine sw_seq ?_
    refine sw_seq ?_
    refine sw_region ?_
    refine r_move (k := ?_)
    refine r_add64 (k := ?_)
    refine r_move (k := ?_)
    refine r_len (k := ?_)
    refine r_eql (k := ?_)
    refine sl_nil ?_
    refine sp_then ?_
    obtain ⟨t, et⟩ : ∃ t, t = tx + UInt32.ofNat j := ⟨_, rfl⟩
    rw [← et]
    have htle := hr.le
    have ht : t.toNat = tx.toNat + j := by rw [et, UInt32.toNat_add, hj32]; omega
    have ht0 : ¬ t = 0 := fun e => by have := u32_zero.2 e; omega
    have hrt : (plainA t (UInt16.ofNat n) 3 t).right = true := plain_right t n hn0 hn1 (by omega) (by omega)
    have het : (encV (plainA t (UInt16.ofNat n) 3 t)).2 = 0 := by unfold encV; rw [if_pos hrt]
    refine sw_thenE (ι := { p1 : PairV // HealM n xs.length k i p p1 }) (fun p1 => [(0, vi (n : Int)), (1, .slice ba xs.length cap), (2, vi (ib k)), (7, .pointer (some ⟨b7, 0, none⟩)), (8, v32 t), (9, vi (i : Int))]) (fun p1 => [.box b7 p1.1.cs 63])
      (fun p1 => [p1.1.d0.rp, p1.1.d0.rc, p1.1.d0.rb, p1.1.d1.rp, p1.1.d1.rc, p1.1.d1.rb, BS.nil.res, Res.mem ba (isV xs)]) [] ?_ fun p1 => ?_
    · have hb' := hr.b
      rw [if_pos hi'] at hb'
      by_cases el : i + 1 = xs.length
      · refine w_re (t := 72) (v' := vb true) rfl (by rw [decide_eq_true (by omega)]) ?_
        refine swd_t (h := ?_)
        refine sw_region ?_
        refine r_move (k := ?_)
        refine r_sub64 (k := ?_)
        refine r_move (k := ?_)
        refine r_sub64 (k := ?_)
        refine r_fieldAddr (k := ?_)
        refine r_idx_arr (k := ?_)
        have hgm : ∀ φ ∈ [(p.get (!k)).rp, (p.get (!k)).rc, (p.get (!k)).rb], φ ∈ [p.d0.rp, p.d0.rc, p.d0.rb, p.d1.rp, p.d1.rc, p.d1.rb, BS.nil.res, Res.mem ba (isV xs)] := by
          cases k
          · exact (PhAll.all (by repeat' (first | trivial | exact .head _ | apply And.intro | apply List.Mem.tail)))
          · exact (PhAll.all (by repeat' (first | trivial | exact .head _ | apply And.intro | apply List.Mem.tail)))
        refine r_load_agg (vs := (p.get (!k)).cs) (by exact tz rfl) (by exact rfl) (by iterate 24 (first | exact .head _ | apply List.Mem.tail | skip)) (by cases k <;> rfl) rfl (by exact rfl) ?_
        refine r_callF (c_detach GW (p.get (!k)) (hr.ok _)) (by exact rfl) (by exact rfl) (by exact rfl) hgm (by exact rfl) ?_
        rintro _ _ ⟨x, rfl, hx, hxp, rfl⟩
        refine r_fieldAddr (k := ?_)
        refine r_idx_arr (k := ?_)
        refine r_store (vs := x.cs) (cs' := (p.set (!k) x).cs) (by exact tz rfl) (by exact rfl) (by exact rfl) (by iterate 24 (first | exact .hd | apply Upd.tl | skip)) rfl rfl rfl (by cases k <;> exact Nat.le_of_ble_eq_true rfl) (by cases k <;> rfl) ?_
        refine sl_nil ?_
        have hm : HealM n xs.length k i p (p.set (!k) x) := ⟨both k (by rw [get_set_not]; exact hr.ok k) (by rw [get_set]; exact hx), by rw [get_set_not], by rw [get_set, if_pos el, hxp]; exact detach_fresh hb'.1 hb'.2⟩
        cases k
        · exact sp_cutE ⟨p.set true x, hm⟩ (by repeat' (first | trivial | exact rfl | apply And.intro)) (by repeat' (first | trivial | exact .head _ | apply And.intro | apply List.Mem.tail)) rfl
        · exact sp_cutE ⟨p.set false x, hm⟩ (by repeat' (first | trivial | exact rfl | apply And.intro)) (by repeat' (first | trivial | exact .head _ | apply And.intro | apply List.Mem.tail)) rfl
      · refine w_re (t := 72) (v' := vb false) rfl (by rw [decide_eq_false (by omega)]) ?_
        refine swd_f (h := ?_)
        refine sw_skip ?_
        exact sp_cutE ⟨p, hr.ok, rfl, by rw [if_neg el]⟩ (by repeat' (first | trivial | exact rfl | apply And.intro)) (by repeat' (first | trivial | exact .head _ | apply And.intro | apply List.Mem.tail)) rfl
    obtain ⟨p1, hp1'⟩ := p1
    dsimp only
    have hlv : ¬ (liveN p1).toNat = 0 := live_pos p1 k ((congrArg DiskP.off hp1'.a).trans hr.a.off)
    have hcs : ∀ b, (p1.get b).cache.xs.length < 1000 := both k (by
      have := congrArg DiskP.cache hp1'.a
      rw [show (p1.get k).cache.xs = (p.get k).pure.cache from this]
      exact Nat.lt_of_le_of_lt hr.a.cache (by omega)) (by
      have hb' := hr.b
      rw [if_pos hi'] at hb'
      have := congrArg DiskP.cache hp1'.b
      rw [show (p1.get (!k)).cache.xs = _ from this]
      split
      · exact Nat.zero_lt_succ _
      · exact Nat.lt_of_le_of_lt hb'.1.cache (by omega))
    have hc0 := hcs false
    have hc1 := hcs true
    refine sw_seq ?_
    refine sw_thenE (ι := { s : PairV × Nat // HealL n xs.length k (i + 1) t (putF f t) s.1 }) (fun s => [(0, vi (n : Int)), (1, .slice ba xs.length cap), (2, vi (ib k)), (7, .pointer (some ⟨b7, 0, none⟩)), (8, v32 t), (9, vi (i : Int)), (10, .pointer (some ⟨s.1.2, 0, none⟩)), (11, vi 0)]) (fun s => [.box s.1.2 s.1.1.cs 63, .box b7 p1.cs 63])
      (fun s => [s.1.1.d0.rp, s.1.1.d0.rc, s.1.1.d0.rb, s.1.1.d1.rp, s.1.1.d1.rc, s.1.1.d1.rb, BS.nil.res, Res.mem ba (isV xs)]) [] ?_ fun s => ?_
    · 
      refine sw_draw [(none, .box b7 p1.cs 63)] [] [0, 1, 2, 3, 4, 5, 6, 7, 8, 9, 10] mix (by kernel_rfl) rfl ?_
      refine ra_first 0 [(none, .box b7 p1.cs 63)] [1, 2, 3, 4, 5, 6, 7, 8, 9, 10] (hq := by first | exact q_load_one | exact q_load_all | exact q_load_fr1 | exact q_load_fr) (k := ?_)
      refine ra_first 1 [] [2, 3, 4, 5, 6, 7, 8, 9, 10] (hq := by exact q_move) (k := ?_)
      refine ra_first 2 [] [3, 4, 5, 6, 7, 8, 9, 10] (hq := by exact q_move) (k := ?_)
      refine ra2 (i := 3) (j := 8) [4, 5, 6, 7, 8, 9, 10] [3, 4, 5, 6, 7, 9, 10] (by kernel_rfl) rfl rfl rfl rfl ?_ ?_
      · 
        refine r_call1 (c_plain3 GW t n hn1) (by exact rfl) (by exact rfl) (by exact rfl) (by simp) (by exact rfl) ?_
        refine sl_nil ?_
        refine sp_nx (k := ?_)
        refine ra2 (i := 4) (j := 8) [5, 6, 7, 8, 9, 10] [4, 5, 6, 7, 9, 10] (by kernel_rfl) rfl rfl rfl rfl ?_ ?_
        · 
          refine r_callF (c_rput p1 (hp1'.ok false) (hp1'.ok true) hlv (plainA t (UInt16.ofNat n) 3 t) ⟨Nat.le_refl _, Nat.zero_le _⟩ hc0 hc1) (by exact rfl) (by exact rfl) (by exact rfl) (PhAll.all (by repeat' (first | trivial | exact .head _ | apply And.intro | apply List.Mem.tail))) (by exact rfl) ?_
          rintro _ _ ⟨s, rfl, hs, rfl⟩
          refine sl_nil ?_
          refine sp_nx (k := ?_)
          refine ra_first 5 [] [6, 7, 8, 9, 10] (hq := by exact q_move) (k := ?_)
          refine ra_first 6 [] [7, 8, 9, 10] (hq := by exact q_ext) (k := ?_)
          refine ra_first 7 [] [8, 9, 10] (hq := by exact q_ext) (k := ?_)
          refine ra1 (i := 8) [9, 10] (h := ?_)
          refine r_alloc (by exact z63) (by exact rfl) (by exact rfl) fun b10 => ?_
          refine sl_nil ?_
          refine sp_nx (k := ?_)
          refine ra1 (i := 9) [10] (h := ?_)
          refine r_store_all (k := ?_)
          refine sl_nil ?_
          refine sp_nx (k := ?_)
          refine ra_first 10 [] [] (hq := by exact q_assign) (k := ?_)
          refine ra_done ?_
          refine sp_re (t := 11) (v' := vi 0) rfl (by rw [het]) ?_
          exact sp_cutE ⟨(s, b10), hr.next hi' (by omega) hp1' ht (by omega) hrt hn1 hs⟩ (by repeat' (first | trivial | exact rfl | apply And.intro)) (by repeat' (first | trivial | exact .head _ | apply And.intro | apply List.Mem.tail)) rfl
        · 
          refine r_alloc (by exact z63) (by exact rfl) (by exact rfl) fun b10 => ?_
          refine sl_nil ?_
          refine sp_nx (k := ?_)
          refine ra1 (i := 4) [5, 6, 7, 9, 10] (h := ?_)
          refine r_callF (c_rput p1 (hp1'.ok false) (hp1'.ok true) hlv (plainA t (UInt16.ofNat n) 3 t) ⟨Nat.le_refl _, Nat.zero_le _⟩ hc0 hc1) (by exact rfl) (by exact rfl) (by exact rfl) (PhAll.all (by repeat' (first | trivial | exact .head _ | apply And.intro | apply List.Mem.tail))) (by exact rfl) ?_
          rintro _ _ ⟨s, rfl, hs, rfl⟩
          refine sl_nil ?_
          refine sp_nx (k := ?_)
          refine ra_first 5 [] [6, 7, 9, 10] (hq := by exact q_move) (k := ?_)
          refine ra_first 6 [] [7, 9, 10] (hq := by exact q_ext) (k := ?_)
          refine ra_first 7 [] [9, 10] (hq := by exact q_ext) (k := ?_)
          refine ra1 (i := 9) [10] (h := ?_)
          refine r_store_all (k := ?_)
          refine sl_nil ?_
          refine sp_nx (k := ?_)
          refine ra_first 10 [] [] (hq := by exact q_assign) (k := ?_)
          refine ra_done ?_
          refine sp_re (t := 11) (v' := vi 0) rfl (by rw [het]) ?_
          exact sp_cutE ⟨(s, b10), hr.next hi' (by omega) hp1' ht (by omega) hrt hn1 hs⟩ (by repeat' (first | trivial | exact rfl | apply And.intro)) (by repeat' (first | trivial | exact .head _ | apply And.intro | apply List.Mem.tail)) rfl
      · 
        refine r_alloc (by exact z63) (by exact rfl) (by exact rfl) fun b10 => ?_
        refine sl_nil ?_
        refine sp_nx (k := ?_)
        refine ra1 (i := 3) [4, 5, 6, 7, 9, 10] (h := ?_)
        refine r_call1 (c_plain3 GW t n hn1) (by exact rfl) (by exact rfl) (by exact rfl) (by simp) (by exact rfl) ?_
        refine sl_nil ?_
        refine sp_nx (k := ?_)
        refine ra1 (i := 4) [5, 6, 7, 9, 10] (h := ?_)
        refine r_callF (c_rput p1 (hp1'.ok false) (hp1'.ok true) hlv (plainA t (UInt16.ofNat n) 3 t) ⟨Nat.le_refl _, Nat.zero_le _⟩ hc0 hc1) (by exact rfl) (by exact rfl) (by exact rfl) (PhAll.all (by repeat' (first | trivial | exact .head _ | apply And.intro | apply List.Mem.tail))) (by exact rfl) ?_
        rintro _ _ ⟨s, rfl, hs, rfl⟩
        refine sl_nil ?_
        refine sp_nx (k := ?_)
        refine ra_first 5 [] [6, 7, 9, 10] (hq := by exact q_move) (k := ?_)
        refine ra_first 6 [] [7, 9, 10] (hq := by exact q_ext) (k := ?_)
        refine ra_first 7 [] [9, 10] (hq := by exact q_ext) (k := ?_)
        refine ra1 (i := 9) [10] (h := ?_)
        refine r_store_all (k := ?_)
        refine sl_nil ?_
        refine sp_nx (k := ?_)
        refine ra_first 10 [] [] (hq := by exact q_assign) (k := ?_)
        refine ra_done ?_
        refine sp_re (t := 11) (v' := vi 0) rfl (by rw [het]) ?_
        exact sp_cutE ⟨(s, b10), hr.next hi' (by omega) hp1' ht (by omega) hrt hn1 hs⟩ (by repeat' (first | trivial | exact rfl | apply And.intro)) (by repeat' (first | trivial | exact .head _ | apply And.intro | apply List.Mem.tail)) rfl
    obtain ⟨⟨s, b10⟩, hs⟩ := s
    dsimp only at hs ⊢
    refine sw_seq ?_
    refine sw_seq ?_
    refine sw_region ?_
    refine r_move (k := ?_)
    refine r_neq (k := ?_)
    refine sl_nil ?_
    refine sp_then ?_
    refine w_re (t := 92) (v' := vb false) rfl rfl ?_
    refine swd_f (h := ?_)
    refine sw_skip ?_
    refine sp_then ?_
    refine sw_region ?_
    refine r_load_all (k := ?_)
    refine r_store_all (k := ?_)
    refine sl_nil ?_
    refine sp_block ?_
    refine sp_then ?_
    refine sw_region ?_
    refine r_move (k := ?_)
    refine r_add64 (k := ?_)
    refine r_assign (k := ?_)
    refine sl_nil ?_
    refine sp_drop rfl ?_
    refine sp_loop (ι := { q : Nat × UInt32 × (Nat → UInt32) × PairV // q.1 ≤ xs.length ∧ HealL n xs.length k q.1 q.2.1 q.2.2.1 q.2.2.2 }) ⟨(i + 1, t, putF f t, s), by omega, hs⟩ ?_ ?_
    · dsimp only; omega
    · exact Ent.mk' (by repeat' (first | trivial | exact rfl | apply And.intro)) (by repeat' (first | trivial | exact .head _ | apply And.intro | apply List.Mem.tail))
  · have h := of_decide_eq_false h
    obtain rfl : i = xs.length := by omega
    have hb := hr.b
    rw [if_neg (by omega)] at hb
    refine sw_exit ?_
    refine sp_then_exit ?_
    refine sp_loop_exit ?_
    refine sp_block_exit ?_
    refine sp_then ?_
    refine sw_seq ?_
    refine sw_region ?_
    refine r_move (k := ?_)
    refine r_sub64 (k := ?_)
    refine r_move (k := ?_)
    refine r_sub64 (k := ?_)
    refine r_fieldAddr (k := ?_)
    refine r_idx_arr (k := ?_)
    have hgm : ∀ φ ∈ [(p.get (!k)).rp, (p.get (!k)).rc, (p.get (!k)).rb], φ ∈ [p.d0.rp, p.d0.rc, p.d0.rb, p.d1.rp, p.d1.rc, p.d1.rb, BS.nil.res, Res.mem ba (isV xs)] := by
      cases k
      · exact (PhAll.all (by repeat' (first | trivial | exact .head _ | apply And.intro | apply List.Mem.tail)))
      · exact (PhAll.all (by repeat' (first | trivial | exact .head _ | apply And.intro | apply List.Mem.tail)))
    refine r_load_agg (vs := (p.get (!k)).cs) (by exact tz rfl) (by exact rfl) (by iterate 24 (first | exact .head _ | apply List.Mem.tail | skip)) (by cases k <;> rfl) rfl (by exact rfl) ?_
    refine r_callF (c_attach GW (p.get (!k)) (hr.ok _)) (by exact rfl) (by exact rfl) (by exact rfl) hgm (by exact rfl) ?_
    rintro _ _ ⟨x, rfl, hx, hxp, rfl⟩
    refine r_fieldAddr (k := ?_)
    refine r_idx_arr (k := ?_)
    refine r_store (vs := x.cs) (cs' := (p.set (!k) x).cs) (by exact tz rfl) (by exact rfl) (by exact rfl) (by iterate 24 (first | exact .hd | apply Upd.tl | skip)) rfl rfl rfl (by cases k <;> exact Nat.le_of_ble_eq_true rfl) (by cases k <;> rfl) ?_
    obtain ⟨P, eP⟩ : ∃ P, P = p.set (!k) x := ⟨_, rfl⟩
    have htle := hr.le
    have hT : Torn n xs.length k tx f P := by
      rw [eP]
      exact ⟨both k (by rw [get_set_not]; exact hr.ok k) (by rw [get_set]; exact hx), by rw [get_set_not]; exact hr.a, by rw [get_set, hxp, hb]; rfl, (hr.hit (by omega)).1, (hr.hit (by omega)).2, hr.mx (by omega), hn0, hn1, by omega, by omega⟩
    refine f_set [P.d0.rp, P.d0.rc, P.d0.rb, P.d1.rp, P.d1.rc, P.d1.rb] (fun V w hw φ hφ => hw φ ?_) ?_
    · subst eP
      cases k
      · exact (PhAll.all (by repeat' (first | trivial | exact .head _ | apply And.intro | apply List.Mem.tail))) φ hφ
      · exact (PhAll.all (by repeat' (first | trivial | exact .head _ | apply And.intro | apply List.Mem.tail))) φ hφ
    rw [← eP]
    refine sl_nil ?_
    refine sp_then ?_
    refine sw_seq ?_
    refine sw_region ?_
    refine r_load_all (k := ?_)
    refine r_callF (c_newestR P (hT.ok false) (hT.ok true)) (by exact rfl) (by exact rfl) (by exact rfl) (PhAll.all (by repeat' (first | trivial | exact .head _ | apply And.intro | apply List.Mem.tail))) (by exact rfl) ?_
    rintro _ _ ⟨A, a, rfl, hA, hak, ha, rfl⟩
    obtain ⟨f1, f2, f3⟩ := hT.newest hA
    have ha := ha f1
    have hatx : a.tx.toNat = tx.toNat := by rw [ha]; exact f2
    have hap : a.pure = (plainA tx (UInt16.ofNat n) 3 tx).pure := by rw [ha]; exact f3
    rw [f1]
    refine r_move (k := ?_)
    refine r_ext (k := ?_)
    refine r_ext (k := ?_)
    refine r_ext (k := ?_)
    refine r_alloc (by exact z32) (cs := zeroA.cs) (by kernel_rfl) (by exact rfl) fun b12 => ?_
    refine r_store_all (cs := zeroA.cs) (vs := a.cs) (by exact tz rfl) (by exact rfl) (by exact rfl) (by iterate 24 (first | exact .hd | apply Upd.tl | skip)) rfl rfl rfl rfl ?_
    refine r_assign (k := ?_)
    refine r_assign (k := ?_)
    refine sl_nil ?_
    refine sp_then ?_
    refine sw_seq ?_
    refine sw_region ?_
    refine r_load_all (k := ?_)
    refine r_load_all (k := ?_)
    have hlP : ¬ (liveN P).toNat = 0 := live_pos P k hT.a.off
    have hcP : ∀ b, (P.get b).cache.xs.length < 1000 ∧ (P.get b).bad.xs = [] := both k ⟨Nat.lt_of_le_of_lt hT.a.cache (by omega), hT.a.bad⟩ (by
      have e1 := congrArg DiskP.cache hT.b
      have e2 := congrArg DiskP.bad hT.b
      rw [show (P.get (!k)).cache.xs = [] from e1, show (P.get (!k)).bad.xs = [] from e2]
      exact ⟨Nat.zero_lt_succ _, rfl⟩)
    have har : (encV a).2 = 0 := by unfold encV; rw [if_pos ((right_pure hap).trans (plain_right tx n hn0 hn1 hT.pos hT.tm))]
    refine r_callF (c_rheal P (hT.ok false) (hT.ok true) hlP a hak (hcP false).1 (hcP true).1 (hcP false).2 (hcP true).2) (by exact rfl) (by exact rfl) (by exact rfl) (PhAll.all (by repeat' (first | trivial | exact .head _ | apply And.intro | apply List.Mem.tail))) (by exact rfl) ?_
    rintro _ _ ⟨H, rfl, hH, rfl⟩
    have hHh := hT.heal hap hH
    rw [har]
    refine r_move (k := ?_)
    refine r_ext (k := ?_)
    refine r_ext (k := ?_)
    refine r_alloc (by exact z63) (by exact rfl) (by exact rfl) fun b15 => ?_
    refine r_store_all (k := ?_)
    refine r_assign (k := ?_)
    refine sl_nil ?_
    refine sp_then ?_
    refine sw_seq ?_
    refine sw_region ?_
    refine r_load_all (k := ?_)
    refine r_load_all (k := ?_)
    have hatx' : a.tx = tx := UInt32.toNat_inj.1 hatx
    have hHs : ∀ b, (H.get b).pure.slot (a.tx % 4).toNat = a.pure := fun b => by rw [hatx']; exact (hHh b).2.2.2
    have hHc : ∀ b, (H.get b).cache.xs = [] ∧ (H.get b).bad.xs = [] := fun b => ⟨(hHh b).2.1.c, (hHh b).2.1.b⟩
    have hHl : ∀ b, (H.get b).cache.xs.length < 1000 := fun b => by rw [(hHc b).1]; exact Nat.zero_lt_succ _
    refine r_callF (c_rheal H (hHh false).1 (hHh true).1 (live_pos H k (hHh k).2.2.1) a hak (hHl false) (hHl true) (hHc false).2 (hHc true).2) (by exact rfl) (by exact rfl) (by exact rfl) (PhAll.all (by repeat' (first | trivial | exact .head _ | apply And.intro | apply List.Mem.tail))) (by exact rfl) ?_
    rintro _ _ ⟨G, rfl, hG, rfl⟩
    have hGg := heal_again hHs hG
    rw [har]
    refine r_move (k := ?_)
    refine r_ext (k := ?_)
    refine r_ext (k := ?_)
    refine r_alloc (by exact z63) (by exact rfl) (by exact rfl) fun b17 => ?_
    refine r_store_all (k := ?_)
    refine r_assign (k := ?_)
    refine sl_nil ?_
    refine sp_then ?_
    refine sw_seq ?_
    refine sw_seq ?_
    refine sw_region ?_
    refine r_move (k := ?_)
    refine r_neq (k := ?_)
    refine r_move (k := ?_)
    refine r_re (t := 124) (v' := vb false) rfl rfl ?_
    refine gd_yes (k := ?_)
    refine r_fieldAddr (k := ?_)
    refine gd_yes (k := ?_)
    refine r_load_one (k := ?_)
    refine gd_yes (k := ?_)
    refine r_move (k := ?_)
    refine gd_yes (k := ?_)
    refine r_neq (k := ?_)
    refine rd_pick_f (k := ?_)
    refine r_move (k := ?_)
    refine r_re (t := 130) (v' := vb false) rfl (by simp [hatx]) ?_
    refine gd_yes (k := ?_)
    refine r_move (k := ?_)
    refine gd_yes (k := ?_)
    refine r_neq (k := ?_)
    refine rd_pick_f (k := ?_)
    refine r_move (k := ?_)
    refine r_re (t := 134) (v' := vb false) rfl rfl ?_
    refine gd_yes (k := ?_)
    refine r_move (k := ?_)
    refine gd_yes (k := ?_)
    refine r_neq (k := ?_)
    refine rd_pick_f (k := ?_)
    refine r_move (k := ?_)
    refine r_re (t := 138) (v' := vb false) rfl rfl ?_
    refine gd_yes (k := ?_)
    refine r_load_all (k := ?_)
    refine gd_yes (k := ?_)
    refine r_load_all (k := ?_)
    refine gd_yes (k := ?_)
    have hb0 : G.d0.pure.bare := by rw [show G.d0.pure = H.d0.pure from (hGg false).2]; exact (hHh false).2.1
    have hb1 : G.d1.pure.bare := by rw [show G.d1.pure = H.d1.pure from (hGg true).2]; exact (hHh true).2.1
    refine r_call1 (c_r10same GW G H (hGg false).1 (hGg true).1 (hHh false).1 (hHh true).1 (hGg false).2 (hGg true).2 hb0 hb1) (by exact rfl) (by exact rfl) (by exact rfl) (PhAll.all (by repeat' (first | trivial | exact .head _ | apply And.intro | apply List.Mem.tail))) (by exact rfl) ?_
    refine gd_yes (k := ?_)
    refine r_not (k := ?_)
    refine rd_pick_f (k := ?_)
    refine sl_nil ?_
    refine sp_then ?_
    refine swd_f (h := ?_)
    refine sw_skip ?_
    refine sp_then ?_
    refine sw_seq ?_
    refine sw_region ?_
    refine r_load_all (k := ?_)
    refine r_callF (c_slots H (hHh false).1 (hHh true).1) (by exact rfl) (by exact rfl) (by exact rfl) (PhAll.all (by repeat' (first | trivial | exact .head _ | apply And.intro | apply List.Mem.tail))) (by exact rfl) ?_
    rintro _ _ ⟨A3, rfl, hA3, -, rfl⟩
    have hA38 : A3.length = 8 := by have := congrArg List.length hA3; simpa using this
    have hl3 : (ancsV A3).length = 112 := by rw [ancsV_len, hA38]
    have h4 := mod4 tx
    have hat : ∀ b, (atA A3 b (tx % 4).toNat).tx.toNat = tx.toNat := fun b => by
      have e := at_get hA3 b h4
      rw [(hHh b).2.2.2] at e
      have e2 : (atA A3 b (tx % 4).toNat).tx = a.tx := congrArg AncP.tx e
      rw [e2, hatx]
    refine r_alloc (v := .agg (ancsV (List.replicate 8 zeroA)).toArray) (by kernel_rfl) (cs := ancsV (List.replicate 8 zeroA)) rfl (by exact rfl) fun b19 => ?_
    refine r_store_all (cs := ancsV (List.replicate 8 zeroA)) (vs := ancsV A3) (by exact tz rfl) (by exact rfl) (by exact rfl) (by iterate 24 (first | exact .hd | apply Upd.tl | skip)) rfl hl3 (ancsV_one A3) rfl ?_
    refine sl_nil ?_
    refine sp_then ?_
    refine sw_seq ?_
    refine sw_region ?_
    refine r_move (k := ?_)
    refine r_call1 (c_r9slot GW tx) (by exact rfl) (by exact rfl) (by exact rfl) (by simp) (by exact rfl) ?_
    refine r_assign (k := ?_)
    refine sl_nil ?_
    refine sp_then ?_
    refine sw_seq ?_
    refine sw_region ?_
    refine r_move (k := ?_)
    refine r_idx_arr (k := ?_)
    refine r_idx_arr (k := ?_)
    refine r_fieldAddr (k := ?_)
    obtain ⟨m, em⟩ : ∃ m, m = (tx % 4).toNat := ⟨_, rfl⟩
    rw [← em] at h4 hat ⊢
    have ha0 : (ancsV A3)[0 + 0 * 56 + m * 14 + 0]? = some (v32 (atA A3 false m).tx) := by
      rw [show 0 + 0 * 56 + m * 14 + 0 = m * 14 by omega, ancsV_tx A3 m (by omega)]
      simp [atA, bN, List.getD, show m < A3.length by omega]
    have ha1 : (ancsV A3)[0 + 1 * 56 + m * 14 + 0]? = some (v32 (atA A3 true m).tx) := by
      rw [show 0 + 1 * 56 + m * 14 + 0 = (4 + m) * 14 by omega, ancsV_tx A3 (4 + m) (by omega)]
      simp [atA, bN, List.getD, show 4 + m < A3.length by omega]
    skip
    refine r_load_one (v := v32 (atA A3 false m).tx) (by exact tz rfl) (by exact rfl) (by iterate 24 (first | exact .head _ | apply List.Mem.tail | skip)) ha0 (by exact rfl) ?_
    refine r_move (k := ?_)
    refine r_eql (k := ?_)
    refine r_move (k := ?_)
    refine r_re (t := 155) (v' := vb true) rfl (by simp [hat]) ?_
    refine gd_yes (k := ?_)
    refine r_move (k := ?_)
    refine gd_yes (k := ?_)
    refine r_idx_arr (k := ?_)
    refine gd_yes (k := ?_)
    refine r_idx_arr (k := ?_)
    refine gd_yes (k := ?_)
    refine r_fieldAddr (k := ?_)
    refine gd_yes (k := ?_)
    refine r_load_one (v := v32 (atA A3 true m).tx) (by exact tz rfl) (by exact rfl) (by iterate 24 (first | exact .head _ | apply List.Mem.tail | skip)) ha1 (by exact rfl) ?_
    refine gd_yes (k := ?_)
    refine r_move (k := ?_)
    refine gd_yes (k := ?_)
    refine r_eql (k := ?_)
    refine rd_pick_t (k := ?_)
    refine r_move (k := ?_)
    refine r_re (t := 164) (v' := vb true) rfl (by simp [hat]) ?_
    refine gd_yes (k := ?_)
    refine r_fieldAddr (k := ?_)
    refine gd_yes (k := ?_)
    refine r_idx_arr (k := ?_)
    refine gd_yes (k := ?_)
    refine r_fieldAddr (k := ?_)
    refine gd_yes (k := ?_)
    refine r_load_one (k := ?_)
    refine gd_yes (k := ?_)
    refine r_len (k := ?_)
    refine gd_yes (k := ?_)
    refine r_fieldAddr (k := ?_)
    refine gd_yes (k := ?_)
    refine r_idx_arr (k := ?_)
    refine gd_yes (k := ?_)
    refine r_fieldAddr (k := ?_)
    refine gd_yes (k := ?_)
    refine r_load_one (k := ?_)
    refine gd_yes (k := ?_)
    refine r_len (k := ?_)
    refine gd_yes (k := ?_)
    refine r_re (t := 169) (v' := vi 0) rfl (by rw [show H.d0.cache.xs = [] from (hHc false).1]; rfl) ?_
    refine r_re (t := 174) (v' := vi 0) rfl (by rw [show H.d1.cache.xs = [] from (hHc true).1]; rfl) ?_
    refine r_add64 (k := ?_)
    refine gd_yes (k := ?_)
    refine r_eql (k := ?_)
    refine rd_pick_t (k := ?_)
    refine r_move (k := ?_)
    refine r_re (t := 178) (v' := vb true) rfl rfl ?_
    refine gd_yes (k := ?_)
    refine r_call1 c_wakes12 (by exact rfl) (by exact rfl) (by exact rfl) (by simp) (by exact rfl) ?_
    refine rd_pick_t (k := ?_)
    refine r_assign (k := ?_)
    refine sl_nil ?_
    refine sp_then ?_
    refine sw_ret ?_
    refine sp_retv rfl rfl (.tmp rfl) rfl rfl ⟨rfl, rfl, rfl⟩ (by simp) rfl (by simp)
end Go.Proofs.YtjahiohlekdhoaaDoor
