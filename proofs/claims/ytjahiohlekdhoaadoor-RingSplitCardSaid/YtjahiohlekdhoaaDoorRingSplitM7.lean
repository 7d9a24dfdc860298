/-
  The walk of ring.Void.
  The walks of ring.ready and ring.put.
  The walks of ring.Put; of ring.Renew for what is no disk.
  The engine, part 19: cuts behind which something new is there.
  The walk of ring.Newest.
  Rings, plain: what slots tell behind writes, which anchor is the newest of two disks that have the same ones.
  The walk of suturelaw12.wakes.
  The walk of the document's slots of anchors.
-/
import Derived.Test.YtjahiohlekdhoaaDoorRingSplitM6
import Derived.Test.YtjahiohlekdhoaaDoorRingSplitM5
import Derived.Test.YtjahiohlekdhoaaDoorRingSplitM3
namespace Go.Proofs.YtjahiohlekdhoaaDoor
open Go
set_option maxHeartbeats 4000000
set_option maxRecDepth 4000
attribute [local irreducible] SW SL SP RA Then FQ IQ LoopQ RQ AQ NX CutQ Exit.noGoto

def bN (k : Bool) : Nat := if k then 1 else 0
/-- Whether a slot's anchor is void by another one of the other disk. -/
def voidBy (x y : AncV) (i : Bool) : Bool := decide (0 < y.tx.toNat) && (decide (x.tx.toNat ≤ y.tx.toNat) && !hasL y.live i)
def voidA (A : List AncV) (i : Bool) (k : Nat) : Bool := decide (¬ (A.getD (bN i * 4 + k) zeroA).tx.toNat = 0) && ((A.drop (bN (!i) * 4)).take 4).any fun y => voidBy (A.getD (bN i * 4 + k) zeroA) y i
theorem c_void (G : Res) (A : List AncV) (hA : A.length = 8) (i : Bool) (k : Nat) (hk : k < 4) : Ctr Tryd.prog G 40 [.agg (ancsV A).toArray, vi (ib i), vi (k : Int)] [] [] (ret1 (vb (voidA A i k))) := by
  have hl : (ancsV A).length = 112 := by rw [ancsV_len, hA]
  refine Ctr.intro Tryd.func40 (by kernel_rfl) rfl Tryd.ntmps40 rfl rfl rfl fun w' X => ?_
  refine sw_seq ?_
  refine sw_region ?_
  refine r_box (cs := ancsV A) (by exact rfl) rfl (by exact rfl) fun b1 => ?_
  refine r_assign (k := ?_)
  refine sl_nil ?_
  refine sp_then ?_
  refine sw_scope ?_
  refine sw_seq ?_
  refine sw_seq ?_
  refine sw_region ?_
  refine r_move (k := ?_)
  refine r_lss (k := ?_)
  refine r_move (k := ?_)
  have hi : 0 ≤ ib i ∧ ib i ≤ 1 := by cases i <;> decide
  refine r_re (t := 11) (v' := vb false) rfl (by rw [decide_eq_false (show ¬ ib i < 0 by omega)]) ?_
  refine gd_yes (k := ?_)
  refine r_move (k := ?_)
  refine gd_yes (k := ?_)
  refine r_gtr (k := ?_)
  refine rd_pick_f (k := ?_)
  refine r_move (k := ?_)
  refine r_re (t := 15) (v' := vb false) rfl (by rw [decide_eq_false (show ¬ 1 < ib i by omega)]) ?_
  refine gd_yes (k := ?_)
  refine r_move (k := ?_)
  refine gd_yes (k := ?_)
  refine r_lss (k := ?_)
  refine rd_pick_f (k := ?_)
  refine r_move (k := ?_)
  refine r_re (t := 19) (v' := vb false) rfl (by rw [decide_eq_false (show ¬ (k : Int) < 0 by omega)]) ?_
  refine gd_yes (k := ?_)
  refine r_move (k := ?_)
  refine gd_yes (k := ?_)
  refine r_geq (k := ?_)
  refine rd_pick_f (k := ?_)
  refine r_move (k := ?_)
  refine r_re (t := 23) (v' := vb false) rfl (by rw [decide_eq_false (show ¬ (4 : Int) ≤ (k : Int) by omega)]) ?_
  refine gd_yes (k := ?_)
  refine r_move (k := ?_)
  refine gd_yes (k := ?_)
  refine r_move (k := ?_)
  refine gd_yes (k := ?_)
  refine r_idx_arr (k := ?_)
  refine gd_yes (k := ?_)
  refine r_idx_arr (k := ?_)
  refine gd_yes (k := ?_)
  refine r_fieldAddr (k := ?_)
  refine gd_yes (k := ?_)
  have hbi : bN i ≤ 1 := by cases i <;> decide
  have hj : bN i * 4 + k < A.length := by omega
  have hx : A.getD (bN i * 4 + k) zeroA = A[bN i * 4 + k] := by simp [List.getD, hj]
  have hv : ∀ b : Bool, b = (decide (¬ (A[bN i * 4 + k]).tx.toNat = 0) && ((A.drop (bN (!i) * 4)).take 4).any fun y => voidBy A[bN i * 4 + k] y i) → voidA A i k = b := fun b h => by rw [h]; unfold voidA; rw [hx]
  generalize ex : A[bN i * 4 + k] = x at hv
  have hbn : (ib i).toNat = bN i := by cases i <;> rfl
  have hcn : (1 - ib i).toNat = bN (!i) := by cases i <;> rfl
  have e1 : 0 + (ib i).toNat * 56 + k * 14 + 0 = (bN i * 4 + k) * 14 := by rw [hbn]; omega
  refine r_load_one (v := v32 x.tx) (by exact tz rfl) (by exact rfl) (by iterate 24 (first | exact .head _ | apply List.Mem.tail | skip)) (by exact (congrArg (fun j => (ancsV A)[j]?) e1).trans (by rw [ancsV_tx A _ hj, ex])) (by exact rfl) ?_
  refine gd_yes (k := ?_)
  refine r_eql (k := ?_)
  refine rd_pick_f (k := ?_)
  refine sl_nil ?_
  refine sp_then ?_
  by_cases h0 : x.tx.toNat = 0
  · refine w_re (t := 31) (v' := vb true) rfl (by simp [h0]) ?_
    refine swd_t (h := ?_)
    refine sw_seq ?_
    refine sw_region ?_
    refine r_assign (k := ?_)
    refine sl_nil ?_
    refine sp_then ?_
    refine sw_ret ?_
    refine sp_then_ret ?_
    refine sp_ng_ret ?_
    refine sp_retv rfl rfl (.tmp rfl) rfl rfl ⟨by rw [hv false (by simp [h0])], rfl, rfl⟩ (by simp) rfl (by simp)
  refine w_re (t := 31) (v' := vb false) rfl (by simp [h0]) ?_
  refine swd_f (h := ?_)
  refine sw_skip ?_
  refine sp_then ?_
  refine sw_seq ?_
  refine sw_label ?_
  refine sp_then ?_
  refine sw_seq ?_
  refine sw_seq ?_
  refine sw_region ?_
  refine r_move (k := ?_)
  refine r_sub64 (k := ?_)
  refine r_idx_arr (k := ?_)
  obtain ⟨Y, eY⟩ : ∃ Y, Y = (A.drop (bN (!i) * 4)).take 4 := ⟨_, rfl⟩
  have hbj : bN (!i) ≤ 1 := by cases i <;> decide
  have hYl : Y.length = 4 := by rw [eY, List.length_take, List.length_drop, hA]; omega
  have hYc : part' (ancsV A) (bN (!i) * 56) 56 = ancsV Y := by
    rw [part', show bN (!i) * 56 = (bN (!i) * 4) * 14 by omega, ancsV_drop]
    have h1 : ancsV (A.drop (bN (!i) * 4)) = ancsV Y ++ ancsV ((A.drop (bN (!i) * 4)).drop 4) := by rw [eY, ancsV, ancsV, ancsV, ← List.flatMap_append, List.take_append_drop]
    have h2 : (ancsV Y).length = 56 := by rw [ancsV_len, hYl]
    rw [h1, ← h2, List.take_left]
  have hYn : (ancsV Y).length = 56 := by rw [ancsV_len, hYl]
  rw [← eY] at hv
  refine r_load_agg (vs := ancsV Y) (by exact tz rfl) (by exact rfl) (by iterate 24 (first | exact .head _ | apply List.Mem.tail | skip)) (by exact (congrArg (fun j => part' (ancsV A) j 56) (show 0 + (1 - ib i).toNat * 56 = bN (!i) * 56 by rw [hcn]; omega)).trans hYc) hYn (by exact rfl) ?_
  refine r_move (k := ?_)
  refine sl_nil ?_
  refine sp_then ?_
  refine sw_block ?_
  refine sw_loop (ι := { n : Nat // n ≤ 4 ∧ (Y.take n).any (fun y => voidBy x y i) = false }) (fun n => [(1, vi (ib i)), (2, vi (k : Int)), (3, .pointer (some ⟨b1, 0, none⟩)), (6, vb false), (35, .agg (ancsV Y).toArray), (36, vi (n.1 : Int))]) (fun _ => [.box b1 (ancsV A) 73]) (fun _ => []) (fun _ => []) (fun n => 4 - n.1) ⟨0, by omega, rfl⟩ ?_ fun n => ?_
  · exact Ent.mk' (by repeat' (first | trivial | exact rfl | apply And.intro)) (by repeat' (first | trivial | exact .head _ | apply And.intro | apply List.Mem.tail))
  obtain ⟨n, hn, hno⟩ := n
  dsimp only
  refine sw_seq ?_
  refine sw_region ?_
  refine r_lss (k := ?_)
  refine sl_nil ?_
  refine sp_then ?_
  refine sw_seq ?_
  refine sw_cond rfl (fun h => ?_) (fun h => ?_)
  · have h := of_decide_eq_true h
    have hn' : n < 4 := by omega
    have hnl : n < Y.length := by omega
    obtain ⟨y, ey⟩ : ∃ y, y = Y[n] := ⟨_, rfl⟩
    have hny : (Y.take (n + 1)).any (fun y => voidBy x y i) = voidBy x y i := by rw [take_any Y _ n hnl, hno, ← ey, Bool.false_or]
    refine sw_skip ?_
    refine sp_then ?_
    refine sw_seq ?_
    refine sw_block ?_
    refine sw_seq ?_
    refine sw_region ?_
    refine r_indexA (vs := y.cs) (i := n) (by exact ta rfl) (by exact tz rfl) (by exact rfl) (by exact rfl) (by omega) (by omega) (Int.toNat_natCast n) (by rw [ey]; exact ancsV_at Y n hnl) rfl (by exact rfl) ?_
    refine r_alloc (by exact z32) (cs := zeroA.cs) (by kernel_rfl) (by exact rfl) fun b2 => ?_
    refine r_store_all (cs := zeroA.cs) (vs := y.cs) (by exact tz rfl) (by exact rfl) (by exact rfl) (by iterate 24 (first | exact .hd | apply Upd.tl | skip)) rfl rfl rfl rfl ?_
    refine sl_nil ?_
    refine sp_then ?_
    refine sw_seq ?_
    have hnext : voidBy x y i = false → (Y.take (n + 1)).any (fun y => voidBy x y i) = false := fun h => hny.trans h
    
    refine sw_draw [(none, .box b2 y.cs 32), (none, .box b1 (ancsV A) 73)] [] [0, 1, 2, 3, 4, 5, 6, 7, 8, 9, 10, 11, 12, 13, 14, 15, 16, 17, 18, 19, 20] mix (by kernel_rfl) rfl ?_
    refine ra_first 0 [] [1, 2, 3, 4, 5, 6, 7, 8, 9, 10, 11, 12, 13, 14, 15, 16, 17, 18, 19, 20] (hq := by exact q_fieldAddr) (k := ?_)
    refine ra_first 1 [(none, .box b2 y.cs 32), (none, .box b1 (ancsV A) 73)] [2, 3, 4, 5, 6, 7, 8, 9, 10, 11, 12, 13, 14, 15, 16, 17, 18, 19, 20] (hq := by first | exact q_load_one | exact q_load_all | exact q_load_fr1 | exact q_load_fr) (k := ?_)
    refine ra_first 2 [] [3, 4, 5, 6, 7, 8, 9, 10, 11, 12, 13, 14, 15, 16, 17, 18, 19, 20] (hq := by exact q_gtr) (k := ?_)
    refine ra_first 3 [] [4, 5, 6, 7, 8, 9, 10, 11, 12, 13, 14, 15, 16, 17, 18, 19, 20] (hq := by exact q_move) (k := ?_)
    
    refine ra_part (t := 42) rfl (fun c1 => ?_) (fun c1 => ?_)
    · have c1 := of_decide_eq_true c1
      have c1' : 0 < y.tx.toNat := by omega
      
      refine ra_firstg 4 [] [5, 6, 7, 8, 9, 10, 11, 12, 13, 14, 15, 16, 17, 18, 19, 20] (hq := by exact q_fieldAddr) (k := ?_)
      refine ra_firstg 5 [(none, .box b2 y.cs 32), (none, .box b1 (ancsV A) 73)] [6, 7, 8, 9, 10, 11, 12, 13, 14, 15, 16, 17, 18, 19, 20] (hq := by first | exact q_load_one | exact q_load_all | exact q_load_fr1 | exact q_load_fr) (k := ?_)
      refine ra_firstg 6 [] [7, 8, 9, 10, 11, 12, 13, 14, 15, 16, 17, 18, 19, 20] (hq := by exact q_move) (k := ?_)
      refine ra_firstg 7 [] [8, 9, 10, 11, 12, 13, 14, 15, 16, 17, 18, 19, 20] (hq := by exact q_move) (k := ?_)
      refine ra_firstg 8 [] [9, 10, 11, 12, 13, 14, 15, 16, 17, 18, 19, 20] (hq := by exact q_idx_arr (i := bN i) (m := ib i) (by exact ta rfl) (by exact rfl) (by exact rfl) (by omega) (by omega) (by exact hbn)) (k := ?_)
      refine ra_firstg 9 [] [10, 11, 12, 13, 14, 15, 16, 17, 18, 19, 20] (hq := by exact q_idx_arr (i := k) (m := (k : Int)) (by exact ta rfl) (by exact rfl) (by exact rfl) (by omega) (by omega) (by exact Int.toNat_natCast k)) (k := ?_)
      refine ra_firstg 10 [] [11, 12, 13, 14, 15, 16, 17, 18, 19, 20] (hq := by exact q_fieldAddr) (k := ?_)
      refine ra_firstg 11 [(none, .box b2 y.cs 32), (none, .box b1 (ancsV A) 73)] [12, 13, 14, 15, 16, 17, 18, 19, 20] (hq := by exact q_load_one (v := v32 x.tx) (by exact tz rfl) (by exact rfl) (.tail _ (.head _)) (by rw [show 0 + bN i * 56 + k * 14 + 0 = (bN i * 4 + k) * 14 by omega, ancsV_tx A _ hj, ex])) (k := ?_)
      refine ra_firstg 12 [] [13, 14, 15, 16, 17, 18, 19, 20] (hq := by exact q_geq) (k := ?_)
      refine ra_first 13 [] [14, 15, 16, 17, 18, 19, 20] (hq := by first | exact q_pick_t | exact q_pick_f) (k := ?_)
      refine ra_first 14 [] [15, 16, 17, 18, 19, 20] (hq := by exact q_move) (k := ?_)
      
      refine ra_part (t := 53) rfl (fun c2 => ?_) (fun c2 => ?_)
      · have c2 := of_decide_eq_true c2
        
        refine ra_firstg 15 [(none, .box b2 y.cs 32), (none, .box b1 (ancsV A) 73)] [16, 17, 18, 19, 20] (hq := by first | exact q_load_one | exact q_load_all | exact q_load_fr1 | exact q_load_fr) (k := ?_)
        refine ra_firstg 16 [] [17, 18, 19, 20] (hq := by exact q_move) (k := ?_)
        refine ra1 (i := 17) [18, 19, 20] (h := ?_)
        refine gd_yes (k := ?_)
        refine r_call1 (c_has G y i) (by exact rfl) (by exact rfl) (by exact rfl) (by simp) (by exact rfl) ?_
        refine sl_nil ?_
        refine sp_nx (k := ?_)
        refine ra_firstg 18 [] [19, 20] (hq := by exact q_not) (k := ?_)
        refine ra_first 19 [] [20] (hq := by first | exact q_pick_t | exact q_pick_f) (k := ?_)
        refine ra_first 20 [] [] (hq := by exact q_assign) (k := ?_)
        refine ra_done ?_
        refine sp_then ?_
        refine sw_seq ?_
        refine sw_region ?_
        refine r_move (k := ?_)
        refine sl_nil ?_
        refine sp_then ?_
        cases hh : hasL y.live i
        · have hvb : voidBy x y i = true := by simp [voidBy, c1', hh]; omega
          refine swd_t (h := ?_)
          refine sw_exit ?_
          refine sp_block_exit' (h := ?_)
          refine sp_then_exit ?_
          refine sp_loop_exit ?_
          refine sp_block_exit ?_
          refine sp_then ?_
          refine sw_seq ?_
          refine sw_region ?_
          refine r_move (k := ?_)
          refine r_assign (k := ?_)
          refine sl_nil ?_
          refine sp_then ?_
          refine sw_ret ?_
          refine sp_ng_ret ?_
          refine sp_retv rfl rfl (.tmp rfl) rfl rfl ⟨?_, rfl, rfl⟩ (by simp) rfl (by simp)
          have ha : (Y.any fun y => voidBy x y i) = true := List.any_eq_true.2 ⟨y, ey ▸ List.getElem_mem hnl, hvb⟩
          rw [hv true (by rw [ha]; simp [h0])]; rfl
        · have hvb : voidBy x y i = false := by simp [voidBy, hh]
          refine swd_f (h := ?_)
          refine sw_skip ?_
          refine sp_block ?_
          refine sp_then ?_
          refine sw_region ?_
          refine r_add64 (k := ?_)
          refine r_move (k := ?_)
          refine sl_nil ?_
          refine sp_drop rfl ?_
          refine sp_loop (ι := { n : Nat // n ≤ 4 ∧ (Y.take n).any (fun y => voidBy x y i) = false }) ⟨n + 1, by omega, hnext hvb⟩ ?_ ?_
          · dsimp only; omega
          · exact Ent.mk' (by repeat' (first | trivial | exact rfl | apply And.intro)) (by repeat' (first | trivial | exact .head _ | apply And.intro | apply List.Mem.tail))
      · have c2 := of_decide_eq_false c2
        have hvb : voidBy x y i = false := by simp [voidBy]; omega
        
        
        refine ra_skip 15 [16, 17, 18, 19, 20] (k := ?_)
        refine ra_skip 16 [17, 18, 19, 20] (k := ?_)
        refine ra_skip 17 [18, 19, 20] (k := ?_)
        refine ra_skip 18 [19, 20] (k := ?_)
        refine ra_first 19 [] [20] (hq := by first | exact q_pick_t | exact q_pick_f) (k := ?_)
        refine ra_first 20 [] [] (hq := by exact q_assign) (k := ?_)
        refine ra_done ?_
        refine sp_then ?_
        refine sw_seq ?_
        refine sw_region ?_
        refine r_move (k := ?_)
        refine sl_nil ?_
        refine sp_then ?_
        refine swd_f (h := ?_)
        refine sw_skip ?_
        refine sp_block ?_
        refine sp_then ?_
        refine sw_region ?_
        refine r_add64 (k := ?_)
        refine r_move (k := ?_)
        refine sl_nil ?_
        refine sp_drop rfl ?_
        refine sp_loop (ι := { n : Nat // n ≤ 4 ∧ (Y.take n).any (fun y => voidBy x y i) = false }) ⟨n + 1, by omega, hnext hvb⟩ ?_ ?_
        · dsimp only; omega
        · exact Ent.mk' (by repeat' (first | trivial | exact rfl | apply And.intro)) (by repeat' (first | trivial | exact .head _ | apply And.intro | apply List.Mem.tail))
    · have c1 := of_decide_eq_false c1
      have hvb : voidBy x y i = false := by simp [voidBy]; omega
      
      
      
      refine ra_skip 4 [5, 6, 7, 8, 9, 10, 11, 12, 13, 14, 15, 16, 17, 18, 19, 20] (k := ?_)
      refine ra_skip 5 [6, 7, 8, 9, 10, 11, 12, 13, 14, 15, 16, 17, 18, 19, 20] (k := ?_)
      refine ra_skip 6 [7, 8, 9, 10, 11, 12, 13, 14, 15, 16, 17, 18, 19, 20] (k := ?_)
      refine ra_skip 7 [8, 9, 10, 11, 12, 13, 14, 15, 16, 17, 18, 19, 20] (k := ?_)
      refine ra_skip 8 [9, 10, 11, 12, 13, 14, 15, 16, 17, 18, 19, 20] (k := ?_)
      refine ra_skip 9 [10, 11, 12, 13, 14, 15, 16, 17, 18, 19, 20] (k := ?_)
      refine ra_skip 10 [11, 12, 13, 14, 15, 16, 17, 18, 19, 20] (k := ?_)
      refine ra_skip 11 [12, 13, 14, 15, 16, 17, 18, 19, 20] (k := ?_)
      refine ra_skip 12 [13, 14, 15, 16, 17, 18, 19, 20] (k := ?_)
      refine ra_first 13 [] [14, 15, 16, 17, 18, 19, 20] (hq := by first | exact q_pick_t | exact q_pick_f) (k := ?_)
      refine ra_first 14 [] [15, 16, 17, 18, 19, 20] (hq := by exact q_move) (k := ?_)
      refine ra_skip 15 [16, 17, 18, 19, 20] (k := ?_)
      refine ra_skip 16 [17, 18, 19, 20] (k := ?_)
      refine ra_skip 17 [18, 19, 20] (k := ?_)
      refine ra_skip 18 [19, 20] (k := ?_)
      refine ra_first 19 [] [20] (hq := by first | exact q_pick_t | exact q_pick_f) (k := ?_)
      refine ra_first 20 [] [] (hq := by exact q_assign) (k := ?_)
      refine ra_done ?_
      refine sp_then ?_
      refine sw_seq ?_
      refine sw_region ?_
      refine r_move (k := ?_)
      refine sl_nil ?_
      refine sp_then ?_
      refine swd_f (h := ?_)
      refine sw_skip ?_
      refine sp_block ?_
      refine sp_then ?_
      refine sw_region ?_
      refine r_add64 (k := ?_)
      refine r_move (k := ?_)
      refine sl_nil ?_
      refine sp_drop rfl ?_
      refine sp_loop (ι := { n : Nat // n ≤ 4 ∧ (Y.take n).any (fun y => voidBy x y i) = false }) ⟨n + 1, by omega, hnext hvb⟩ ?_ ?_
      · dsimp only; omega
      · exact Ent.mk' (by repeat' (first | trivial | exact rfl | apply And.intro)) (by repeat' (first | trivial | exact .head _ | apply And.intro | apply List.Mem.tail))
  · have h := of_decide_eq_false h
    obtain rfl : n = 4 := by omega
    rw [List.take_of_length_le (by omega)] at hno
    refine sw_exit ?_
    refine sp_then_exit ?_
    refine sp_loop_exit ?_
    refine sp_block_exit ?_
    refine sp_then ?_
    refine sw_seq ?_
    refine sw_region ?_
    refine r_move (k := ?_)
    refine r_assign (k := ?_)
    refine sl_nil ?_
    refine sp_then ?_
    refine sw_ret ?_
    refine sp_ng_ret ?_
    refine sp_retv rfl rfl (.tmp rfl) rfl rfl ⟨?_, rfl, rfl⟩ (by simp) rfl (by simp)
    rw [hv false (by rw [hno, Bool.and_false])]
end Go.Proofs.YtjahiohlekdhoaaDoor

namespace Go.Proofs.YtjahiohlekdhoaaDoor
open Go
set_option maxHeartbeats 4000000
set_option maxRecDepth 4000
attribute [local irreducible] SW SL SP RA Then FQ IQ LoopQ RQ AQ NX CutQ Exit.noGoto

theorem encV_len (a : AncV) : (encV a).1.length = 256 := by
  unfold encV; split
  · exact page_len a
  · simp [zeros]
theorem encV_or (a : AncV) : (encV a).2 = 0 ∨ (encV a).2 = 2 := by
  unfold encV; split
  · exact .inl rfl
  · exact .inr rfl
theorem c_ready (p : PairV) (hl : ¬ (liveN p).toNat = 0) (a : AncV) (hok : a.mark.key.ok) : Ctr Tryd.prog GW 97 [p.v, a.v] [] [a.mark.key.res] (ret1 (.tuple #[.agg (bv (encV a).1).toArray, vi (encV a).2])) := by
  have hpl : (bv (encV a).1).length = 256 := by rw [bv_len, encV_len]
  refine Ctr.intro Tryd.func97 (by kernel_rfl) rfl Tryd.ntmps97 rfl rfl rfl fun w' X => ?_
  refine sw_seq ?_
  refine sw_region ?_
  refine r_box (cs := p.cs) (by exact rfl) rfl (by exact rfl) fun b1 => ?_
  refine r_box (cs := a.cs) (by exact rfl) rfl (by exact rfl) fun b2 => ?_
  refine r_alloc (by exact z37) (cs := bv (List.replicate 256 0)) (by kernel_rfl) (by exact rfl) fun b4 => ?_
  refine r_assign (k := ?_)
  refine sl_nil ?_
  refine sp_then ?_
  refine sw_seq ?_
  refine sw_region ?_
  refine r_load_all (k := ?_)
  refine r_call1 (c_encode a hok) (by exact rfl) (by exact rfl) (by exact rfl) (PhAll.all (by repeat' (first | trivial | exact .head _ | apply And.intro | apply List.Mem.tail))) (by exact rfl) ?_
  refine r_move (k := ?_)
  refine r_ext (k := ?_)
  refine r_ext (k := ?_)
  refine r_store_all (cs := bv (List.replicate 256 0)) (vs := bv (encV a).1) (by exact tz rfl) (by exact rfl) (by exact rfl) (by iterate 24 (first | exact .hd | apply Upd.tl | skip)) rfl hpl (bv_one _) rfl ?_
  refine r_assign (k := ?_)
  refine sl_nil ?_
  refine sp_then ?_
  refine sw_seq ?_
  refine sw_block ?_
  refine sw_seq ?_
  refine sw_region ?_
  refine r_move (k := ?_)
  refine r_neq (k := ?_)
  refine r_assign (k := ?_)
  refine sl_nil ?_
  refine sp_then ?_
  rcases encV_or a with he | he
  · refine w_re (t := 11) (v' := vb false) rfl (by rw [he]; rfl) ?_
    refine swd_f (h := ?_)
    refine sw_seq ?_
    refine sw_region ?_
    refine r_fieldAddr (k := ?_)
    refine r_load_one (k := ?_)
    refine r_assign (k := ?_)
    refine sl_nil ?_
    refine sp_then ?_
    refine swd_f (h := ?_)
    refine sw_seq ?_
    refine sw_region ?_
    refine r_load_all (k := ?_)
    refine r_call1 (c_live GW p) (by exact rfl) (by exact rfl) (by exact rfl) (by simp) (by exact rfl) ?_
    refine r_eql (k := ?_)
    refine r_assign (k := ?_)
    refine sl_nil ?_
    refine sp_then ?_
    refine w_re (t := 19) (v' := vb false) rfl (by simp [hl]) ?_
    refine swd_f (h := ?_)
    refine sw_skip ?_
    refine sp_block ?_
    refine sp_then ?_
    refine sw_seq ?_
    refine sw_region ?_
    refine r_load_all (cs := bv (encV a).1) (by exact tz rfl) (by exact rfl) (by iterate 24 (first | exact .head _ | apply List.Mem.tail | skip)) hpl (by exact rfl) ?_
    refine r_store_all (cs := bv (encV a).1) (vs := bv (encV a).1) (by exact tz rfl) (by exact rfl) (by exact rfl) (by iterate 24 (first | exact .hd | apply Upd.tl | skip)) rfl hpl (bv_one _) hpl ?_
    refine r_assign (k := ?_)
    refine sl_nil ?_
    refine sp_then ?_
    refine sw_ret ?_
    refine sp_ret2 rfl rfl (.agg rfl (tz rfl) hpl (.head _)) (.tmp rfl) rfl rfl ⟨by rw [he], rfl, rfl⟩ (by simp) rfl (by simp)
  · refine w_re (t := 11) (v' := vb true) rfl (by rw [he]; rfl) ?_
    refine swd_t (h := ?_)
    refine sw_seq ?_
    refine sw_region ?_
    refine r_load_all (cs := bv (encV a).1) (by exact tz rfl) (by exact rfl) (by iterate 24 (first | exact .head _ | apply List.Mem.tail | skip)) hpl (by exact rfl) ?_
    refine r_store_all (cs := bv (encV a).1) (vs := bv (encV a).1) (by exact tz rfl) (by exact rfl) (by exact rfl) (by iterate 24 (first | exact .hd | apply Upd.tl | skip)) rfl hpl (bv_one _) hpl ?_
    refine r_assign (k := ?_)
    refine sl_nil ?_
    refine sp_then ?_
    refine sw_ret ?_
    refine sp_block_ret ?_
    refine sp_then_ret ?_
    refine sp_ret2 rfl rfl (.agg rfl (tz rfl) hpl (.head _)) (.tmp rfl) rfl rfl ⟨by rw [he], rfl, rfl⟩ (by simp) rfl (by simp)

/-- What a disk is behind a put. -/
def DiskP.put (d : DiskP) (a : AncV) (q : Bool) : DiskP := if (encV a).2 = 0 ∧ d.off = false ∧ q = true then d.write (((a.tx % 4).toNat : Nat) : Int) (encV a).1 else d
def putC (p : PairV) (a : AncV) (q : Bool → Bool) (k : Bool) : Nat := if (encV a).2 = 0 ∧ (p.get k).off = false ∧ q k = true then 1 else 0
def putN' (p : PairV) (a : AncV) (q : Bool → Bool) : Nat → Nat
  | 0 => 0
  | 1 => putC p a q false
  | _ => putC p a q false + putC p a q true
structure PutI (p : PairV) (a : AncV) (q : Bool → Bool) (n : Nat) (s : PairV) : Prop where
  le : n ≤ 2
  o0 : s.d0.ok
  o1 : s.d1.ok
  e0 : s.d0.pure = if 0 < n then p.d0.pure.put a (q false) else p.d0.pure
  e1 : s.d1.pure = if 1 < n then p.d1.pure.put a (q true) else p.d1.pure
theorem c_putG (p : PairV) (h0 : p.d0.ok) (h1 : p.d1.ok) (hl : ¬ (liveN p).toNat = 0) (a : AncV) (hok : a.mark.key.ok) (hc0 : p.d0.cache.xs.length < 1000) (hc1 : p.d1.cache.xs.length < 1000) (g : FuncId) (caps : List Value) (φa : Res) (q : Bool → Bool)
    (hq : ∀ k, (p.get k).off = false → Ctr Tryd.prog GW g ((p.get k).v :: caps) [] [p.d0.rp, p.d0.rc, p.d0.rb, p.d1.rp, p.d1.rc, p.d1.rb, a.mark.key.res, φa] (ret1 (vb (q k)))) :
    Ctr Tryd.prog GW 69 [p.v, a.v, .func (.func g) #[] caps.toArray] [] [p.d0.rp, p.d0.rc, p.d0.rb, p.d1.rp, p.d1.rc, p.d1.rb, a.mark.key.res, φa]
      (retF fun v Φ' => ∃ s : PairV, v = .tuple #[s.v, vi (putN' p a q 2 : Nat), vi (encV a).2] ∧ PutI p a q 2 s ∧ Φ' = s.ress) := by
  have hpl : (bv (encV a).1).length = 256 := by rw [bv_len, encV_len]
  refine Ctr.intro Tryd.func69 (by kernel_rfl) rfl Tryd.ntmps69 rfl rfl rfl fun w' X => ?_
  refine sw_seq ?_
  refine sw_region ?_
  refine r_box (cs := p.cs) (by exact rfl) rfl (by exact rfl) fun b1 => ?_
  refine r_box (cs := a.cs) (by exact rfl) rfl (by exact rfl) fun b2 => ?_
  refine r_alloc (by exact z63) (by exact rfl) (by exact rfl) fun b3 => ?_
  refine r_assign (k := ?_)
  refine r_assign (k := ?_)
  refine sl_nil ?_
  refine sp_then ?_
  refine sw_seq ?_
  refine sw_region ?_
  refine r_load_all (k := ?_)
  refine r_load_all (k := ?_)
  refine r_call1 (c_ready p hl a hok) (by exact rfl) (by exact rfl) (by exact rfl) (PhAll.all (by repeat' (first | trivial | exact .head _ | apply And.intro | apply List.Mem.tail))) (by exact rfl) ?_
  refine r_move (k := ?_)
  refine r_ext (k := ?_)
  refine r_ext (k := ?_)
  refine r_alloc (by exact z37) (cs := bv (List.replicate 256 0)) (by kernel_rfl) (by exact rfl) fun b4 => ?_
  refine r_store_all (cs := bv (List.replicate 256 0)) (vs := bv (encV a).1) (by exact tz rfl) (by exact rfl) (by exact rfl) (by iterate 24 (first | exact .hd | apply Upd.tl | skip)) rfl hpl (bv_one _) rfl ?_
  refine r_assign (k := ?_)
  refine sl_nil ?_
  refine sp_then ?_
  refine sw_seq ?_
  refine sw_region ?_
  refine r_load_all (k := ?_)
  refine r_store_all (k := ?_)
  refine sl_nil ?_
  refine sp_then ?_
  refine sw_seq ?_
  refine sw_seq ?_
  refine sw_region ?_
  refine r_fieldAddr (k := ?_)
  refine r_load_agg (k := ?_)
  refine r_move (k := ?_)
  refine sl_nil ?_
  refine sp_then ?_
  refine sw_block ?_
  refine sw_loop (ι := { s : Nat × PairV // PutI p a q s.1 s.2 }) (fun s => [(2, .func (.func g) #[] caps.toArray), (4, .pointer (some ⟨b2, 0, none⟩)), (6, .pointer (some ⟨b3, 0, none⟩)), (7, vi (putN' p a q s.1.1 : Nat)), (8, vi (encV a).2), (9, .pointer (some ⟨b4, 0, none⟩)), (20, .agg p.ds.toArray), (21, vi (s.1.1 : Int))])
    (fun s => [.box b4 (bv (encV a).1) 37, .box b3 s.1.2.cs 63, .box b2 a.cs 32, .box b1 p.cs 63]) (fun s => [s.1.2.d0.rp, s.1.2.d0.rc, s.1.2.d0.rb, s.1.2.d1.rp, s.1.2.d1.rc, s.1.2.d1.rb, p.d0.rp, p.d0.rc, p.d0.rb, p.d1.rp, p.d1.rc, p.d1.rb, a.mark.key.res, φa]) (fun _ => []) (fun s => 2 - s.1.1) ⟨(0, p), ⟨by dsimp only; omega, h0, h1, rfl, rfl⟩⟩ ?_ fun s => ?_
  · exact Ent.mk' (by repeat' (first | trivial | exact rfl | apply And.intro)) (by repeat' (first | trivial | exact .head _ | apply And.intro | apply List.Mem.tail))
  obtain ⟨⟨n, s⟩, hs⟩ := s
  dsimp only at hs ⊢
  refine sw_seq ?_
  refine sw_region ?_
  refine r_lss (k := ?_)
  refine sl_nil ?_
  refine sp_then ?_
  refine sw_seq ?_
  refine sw_cond rfl (fun h => ?_) (fun h => ?_)
  · have h := of_decide_eq_true h
    obtain ⟨k, rfl⟩ : ∃ k, n = bN k := by
      obtain rfl | rfl : n = 0 ∨ n = 1 := by omega
      · exact ⟨false, rfl⟩
      · exact ⟨true, rfl⟩
    have ek : ((bN k : Nat) : Int) = ib k := by cases k <;> rfl
    have hk : bN k ≤ 1 := by cases k <;> decide
    have hsk : (s.get k).pure = (p.get k).pure := by
      cases k
      · exact hs.e0.trans (if_neg (by decide))
      · exact hs.e1.trans (if_neg (by decide))
    have hok' : (s.get k).ok := by cases k with | false => exact hs.o0 | true => exact hs.o1
    have hso : (s.get k).off = (p.get k).off := congrArg DiskP.off hsk
    have hsc : (s.get k).cache.xs.length < 1000 := by
      have : (s.get k).cache.xs = (p.get k).cache.xs := congrArg DiskP.cache hsk
      rw [this]
      cases k with | false => exact hc0 | true => exact hc1
    have hst : ¬ ((encV a).2 = 0 ∧ (p.get k).off = false ∧ q k = true) → PutI p a q (bN k + 1) s ∧ putN' p a q (bN k + 1) = putN' p a q (bN k) := fun hn => by
      cases k
      · have hp : p.d0.pure.put a (q false) = p.d0.pure := if_neg hn
        exact ⟨⟨by decide, hs.o0, hs.o1, hs.e0.trans (by simp [hp, bN]), hs.e1⟩, if_neg hn⟩
      · have hp : p.d1.pure.put a (q true) = p.d1.pure := if_neg hn
        refine ⟨⟨by decide, hs.o0, hs.o1, hs.e0, hs.e1.trans (by simp [hp, bN])⟩, ?_⟩
        show putC p a q false + putC p a q true = putC p a q false
        rw [show putC p a q true = 0 from if_neg hn, Nat.add_zero]
    have hgo : ((encV a).2 = 0 ∧ (p.get k).off = false ∧ q k = true) → ∀ x : DiskV, x.ok → x.pure = (s.get k).pure.write (((a.tx % 4).toNat : Nat) : Int) (encV a).1 → PutI p a q (bN k + 1) (s.set k x) ∧ putN' p a q (bN k + 1) = putN' p a q (bN k) + 1 := fun hn x hx hxp => by
      rw [hsk] at hxp
      cases k
      · have hp : p.d0.pure.put a (q false) = x.pure := (if_pos hn).trans hxp.symm
        exact ⟨⟨by decide, hx, hs.o1, by simp [hp, bN, PairV.set], hs.e1⟩, if_pos hn⟩
      · have hp : p.d1.pure.put a (q true) = x.pure := (if_pos hn).trans hxp.symm
        refine ⟨⟨by decide, hs.o0, hx, hs.e0, by simp [hp, bN, PairV.set]⟩, ?_⟩
        show putC p a q false + putC p a q true = putC p a q false + 1
        rw [show putC p a q true = 1 from if_pos hn]
    rw [ek]
    refine sw_skip ?_
    refine sp_then ?_
    refine sw_seq ?_
    refine sw_block ?_
    refine sw_seq ?_
    refine sw_region ?_
    refine r_move (k := ?_)
    refine r_indexA (vs := (p.get k).cs) (i := bN k) (by exact ta rfl) (by exact tz rfl) (by exact rfl) (by exact rfl) (by omega) (by omega) (by cases k <;> rfl) (by cases k <;> rfl) rfl (by exact rfl) ?_
    refine r_alloc (by exact z60) (by exact rfl) (by exact rfl) fun b5 => ?_
    refine r_assign (k := ?_)
    refine r_store_all (k := ?_)
    refine sl_nil ?_
    refine sp_then ?_
    refine sw_seq ?_
    refine sw_region ?_
    refine r_move (k := ?_)
    refine r_eql (k := ?_)
    refine r_move (k := ?_)
    have e21 : vi (ib k + 1) = vi ((bN k + 1 : Nat) : Int) := by cases k <;> rfl
    have hpb : putN' p a q (bN k) ≤ 1 := by
      cases k
      · exact Nat.zero_le _
      · show putC p a q false ≤ 1
        unfold putC; split <;> omega
    have fin0 : ¬ ((encV a).2 = 0 ∧ (p.get k).off = false ∧ q k = true) → vi ((putN' p a q (bN k + 1) : Nat) : Int) = vi ((putN' p a q (bN k) : Nat) : Int) := fun h => by rw [(hst h).2]
    by_cases he : (encV a).2 = 0
    · refine r_re (t := 27) (v' := vb true) rfl (by rw [he]; rfl) ?_
      refine gd_yes (k := ?_)
      refine r_fieldAddr (k := ?_)
      refine gd_yes (k := ?_)
      refine r_load_one (k := ?_)
      refine gd_yes (k := ?_)
      refine r_not (k := ?_)
      refine rd_pick_t (k := ?_)
      refine r_move (k := ?_)
      cases ho : (p.get k).off
      · refine r_re (t := 32) (v' := vb true) rfl rfl ?_
        refine gd_yes (k := ?_)
        refine r_move (k := ?_)
        refine gd_yes (k := ?_)
        refine r_load_all (k := ?_)
        refine gd_yes (k := ?_)
        refine r_call1 (hq k ho) (by exact rfl) (by exact rfl) (by exact rfl) (PhAll.all (by repeat' (first | trivial | exact .head _ | apply And.intro | apply List.Mem.tail))) (by exact rfl) ?_
        cases hqk : q k
        · have hn : ¬ ((encV a).2 = 0 ∧ (p.get k).off = false ∧ q k = true) := fun h => by rw [hqk] at h; cases h.2.2
          refine rd_pick_t (k := ?_)
          refine sl_nil ?_
          refine sp_then ?_
          refine swd_f (h := ?_)
          refine sw_skip ?_
          refine sp_block ?_
          refine sp_then ?_
          refine sw_region ?_
          refine r_add64 (k := ?_)
          refine r_move (k := ?_)
          refine sl_nil ?_
          refine sp_drop rfl ?_
          refine sp_re (t := 7) (v' := vi ((putN' p a q (bN k + 1) : Nat) : Int)) rfl (fin0 hn).symm ?_
          refine sp_re (t := 21) (v' := vi ((bN k + 1 : Nat) : Int)) rfl e21 ?_
          refine sp_loop (ι := { s : Nat × PairV // PutI p a q s.1 s.2 }) ⟨(bN k + 1, s), (hst hn).1⟩ ?_ ?_
          · dsimp only; omega
          · exact Ent.mk' (by repeat' (first | trivial | exact rfl | apply And.intro)) (by repeat' (first | trivial | exact .head _ | apply And.intro | apply List.Mem.tail))
        · have hn : (encV a).2 = 0 ∧ (p.get k).off = false ∧ q k = true := ⟨he, ho, hqk⟩
          have hgm : ∀ φ ∈ [(s.get k).rp, (s.get k).rc, (s.get k).rb], φ ∈ [s.d0.rp, s.d0.rc, s.d0.rb, s.d1.rp, s.d1.rc, s.d1.rb, p.d0.rp, p.d0.rc, p.d0.rb, p.d1.rp, p.d1.rc, p.d1.rb, a.mark.key.res, φa] := by
            cases k
            · exact (PhAll.all (by repeat' (first | trivial | exact .head _ | apply And.intro | apply List.Mem.tail)))
            · exact (PhAll.all (by repeat' (first | trivial | exact .head _ | apply And.intro | apply List.Mem.tail)))
          have hs1 : 32 ≤ (s.get k).pages.xs.length := hok'.f.n0
          have htx : (a.tx % 4).toNat < 4 := by
            rw [UInt32.toNat_mod]; exact Nat.mod_lt _ (by decide)
          refine rd_pick_t (k := ?_)
          refine sl_nil ?_
          refine sp_then ?_
          refine swd_t (h := ?_)
          refine sw_seq ?_
          refine sw_region ?_
          refine r_move (k := ?_)
          refine r_add64 (k := ?_)
          refine r_assign (k := ?_)
          refine sl_nil ?_
          refine sp_then ?_
          
          refine sw_draw [(none, .box b5 (p.get k).cs 60), (none, .box b4 (bv (encV a).1) 37), (some 10, .box b3 s.cs 63), (none, .box b2 a.cs 32), (none, .box b1 p.cs 63)] [] [0, 1, 2, 3, 4, 5, 6, 7, 8, 9, 10, 11] mix (by kernel_rfl) rfl ?_
          refine ra_first 0 [(none, .box b5 (p.get k).cs 60), (none, .box b4 (bv (encV a).1) 37), (some 10, .box b3 s.cs 63), (none, .box b2 a.cs 32), (none, .box b1 p.cs 63)] [1, 2, 3, 4, 5, 6, 7, 8, 9, 10, 11] (hq := by first | exact q_load_one | exact q_load_all | exact q_load_fr1 | exact q_load_fr) (k := ?_)
          refine ra_first 1 [] [2, 3, 4, 5, 6, 7, 8, 9, 10, 11] (hq := by exact q_move) (k := ?_)
          refine ra_first 2 [] [3, 4, 5, 6, 7, 8, 9, 10, 11] (hq := by exact q_fieldAddr) (k := ?_)
          refine ra_first 3 [(none, .box b5 (p.get k).cs 60), (none, .box b4 (bv (encV a).1) 37), (some 10, .box b3 s.cs 63), (none, .box b2 a.cs 32), (none, .box b1 p.cs 63)] [4, 5, 6, 7, 8, 9, 10, 11] (hq := by first | exact q_load_one | exact q_load_all | exact q_load_fr1 | exact q_load_fr) (k := ?_)
          refine ra_first 5 [(none, .box b5 (p.get k).cs 60), (none, .box b4 (bv (encV a).1) 37), (some 10, .box b3 s.cs 63), (none, .box b2 a.cs 32), (none, .box b1 p.cs 63)] [4, 6, 7, 8, 9, 10, 11] (hq := by exact q_load_all (cs := bv (encV a).1) (by exact tz rfl) (by exact rfl) (.tail _ (.head _)) hpl) (k := ?_)
          refine ra1 (i := 4) [6, 7, 8, 9, 10, 11] (h := ?_)
          refine r_call1 (c_slot GW a.tx) (by exact rfl) (by exact rfl) (by exact rfl) (by simp) (by exact rfl) ?_
          refine sl_nil ?_
          refine sp_nx (k := ?_)
          refine ra1 (i := 6) [7, 8, 9, 10, 11] (h := ?_)
          refine r_callF (c_mput GW s k hok' (hso.trans ho) ((a.tx % 4).toNat : Int) (encV a).1 (by omega) (by omega) (encV_len a) hsc) (by exact rfl) (by exact rfl) (by exact rfl) hgm (by exact rfl) ?_
          rintro _ _ ⟨x, rfl, hx, hxp, rfl⟩
          refine sl_nil ?_
          refine sp_nx (k := ?_)
          refine ra_first 7 [] [8, 9, 10, 11] (hq := by exact q_move) (k := ?_)
          refine ra_first 8 [] [9, 10, 11] (hq := by exact q_ext) (k := ?_)
          refine ra_first 9 [] [10, 11] (hq := by exact q_ext) (k := ?_)
          refine ra1 (i := 10) [11] (h := ?_)
          refine r_store_all (cs := s.cs) (vs := (s.set k x).cs) (by exact tz rfl) (by exact rfl) (by exact rfl) (by iterate 24 (first | exact .hd | apply Upd.tl | skip)) rfl (by cases k <;> rfl) (by cases k <;> rfl) rfl ?_
          refine sl_nil ?_
          refine sp_nx (k := ?_)
          refine ra_first 11 [] [] (hq := by exact q_assign) (k := ?_)
          refine ra_done ?_
          refine sp_block ?_
          refine sp_then ?_
          refine sw_region ?_
          refine r_add64 (k := ?_)
          refine r_move (k := ?_)
          refine sl_nil ?_
          refine sp_drop rfl ?_
          have hg := hgo hn x hx hxp
          refine sp_re (t := 7) (v' := vi ((putN' p a q (bN k + 1) : Nat) : Int)) rfl (by rw [hg.2]; rfl) ?_
          refine sp_re (t := 8) (v' := vi (encV a).2) rfl (by rw [he]) ?_
          refine sp_re (t := 21) (v' := vi ((bN k + 1 : Nat) : Int)) rfl e21 ?_
          refine sp_loop (ι := { s : Nat × PairV // PutI p a q s.1 s.2 }) ⟨(bN k + 1, s.set k x), hg.1⟩ ?_ ?_
          · dsimp only; omega
          · cases k
            · exact Ent.mk' (by repeat' (first | trivial | exact rfl | apply And.intro)) (by repeat' (first | trivial | exact .head _ | apply And.intro | apply List.Mem.tail))
            · exact Ent.mk' (by repeat' (first | trivial | exact rfl | apply And.intro)) (by repeat' (first | trivial | exact .head _ | apply And.intro | apply List.Mem.tail))
      · have hn : ¬ ((encV a).2 = 0 ∧ (p.get k).off = false ∧ q k = true) := fun h => by rw [ho] at h; cases h.2.1
        refine r_re (t := 32) (v' := vb false) rfl rfl ?_
        refine gd_no (k := ?_)
        refine gd_no (k := ?_)
        refine gd_no (k := ?_)
        refine rd_pick_f (k := ?_)
        refine sl_nil ?_
        refine sp_then ?_
        refine swd_f (h := ?_)
        refine sw_skip ?_
        refine sp_block ?_
        refine sp_then ?_
        refine sw_region ?_
        refine r_add64 (k := ?_)
        refine r_move (k := ?_)
        refine sl_nil ?_
        refine sp_drop rfl ?_
        refine sp_re (t := 7) (v' := vi ((putN' p a q (bN k + 1) : Nat) : Int)) rfl (fin0 hn).symm ?_
        refine sp_re (t := 21) (v' := vi ((bN k + 1 : Nat) : Int)) rfl e21 ?_
        refine sp_loop (ι := { s : Nat × PairV // PutI p a q s.1 s.2 }) ⟨(bN k + 1, s), (hst hn).1⟩ ?_ ?_
        · dsimp only; omega
        · exact Ent.mk' (by repeat' (first | trivial | exact rfl | apply And.intro)) (by repeat' (first | trivial | exact .head _ | apply And.intro | apply List.Mem.tail))
    · have hn : ¬ ((encV a).2 = 0 ∧ (p.get k).off = false ∧ q k = true) := fun h => he h.1
      refine r_re (t := 27) (v' := vb false) rfl (by rw [decide_eq_false he]) ?_
      refine gd_no (k := ?_)
      refine gd_no (k := ?_)
      refine gd_no (k := ?_)
      refine rd_pick_f (k := ?_)
      refine r_move (k := ?_)
      refine gd_no (k := ?_)
      refine gd_no (k := ?_)
      refine gd_no (k := ?_)
      refine rd_pick_f (k := ?_)
      refine sl_nil ?_
      refine sp_then ?_
      refine swd_f (h := ?_)
      refine sw_skip ?_
      refine sp_block ?_
      refine sp_then ?_
      refine sw_region ?_
      refine r_add64 (k := ?_)
      refine r_move (k := ?_)
      refine sl_nil ?_
      refine sp_drop rfl ?_
      refine sp_re (t := 7) (v' := vi ((putN' p a q (bN k + 1) : Nat) : Int)) rfl (fin0 hn).symm ?_
      refine sp_re (t := 21) (v' := vi ((bN k + 1 : Nat) : Int)) rfl e21 ?_
      refine sp_loop (ι := { s : Nat × PairV // PutI p a q s.1 s.2 }) ⟨(bN k + 1, s), (hst hn).1⟩ ?_ ?_
      · dsimp only; omega
      · exact Ent.mk' (by repeat' (first | trivial | exact rfl | apply And.intro)) (by repeat' (first | trivial | exact .head _ | apply And.intro | apply List.Mem.tail))
  · have h := of_decide_eq_false h
    have hle := hs.le
    obtain rfl : n = 2 := by omega
    refine sw_exit ?_
    refine sp_then_exit ?_
    refine sp_loop_exit ?_
    refine sp_block_exit ?_
    refine sp_then ?_
    refine sw_seq ?_
    refine sw_region ?_
    refine r_load_all (k := ?_)
    refine r_move (k := ?_)
    refine r_move (k := ?_)
    refine r_store_all (k := ?_)
    refine r_assign (k := ?_)
    refine r_assign (k := ?_)
    refine sl_nil ?_
    refine sp_then ?_
    refine sw_ret ?_
    refine sp_ret3 rfl rfl (.agg rfl (tz rfl) rfl (.tail _ (.head _))) (.tmp rfl) (.tmp rfl) rfl rfl ⟨rfl, s, rfl, hs, rfl⟩ (by simp) rfl (PhAll.all (by repeat' (first | trivial | exact .head _ | apply And.intro | apply List.Mem.tail)))
end Go.Proofs.YtjahiohlekdhoaaDoor

namespace Go.Proofs.YtjahiohlekdhoaaDoor
open Go
set_option maxHeartbeats 4000000
set_option maxRecDepth 4000
attribute [local irreducible] SW SL SP RA Then FQ IQ LoopQ RQ AQ NX CutQ Exit.noGoto

theorem c_put1 (G : Res) (d : DiskV) (φs : List Res) : Ctr Tryd.prog G 70 [d.v] [] φs (ret1 (vb true)) := by
  refine Ctr.intro Tryd.func70 (by kernel_rfl) rfl Tryd.ntmps70 rfl rfl rfl fun w' X => ?_
  refine sw_seq ?_
  refine sw_region ?_
  refine r_box (cs := d.cs) (by exact rfl) rfl (by exact rfl) fun b1 => ?_
  refine r_assign (k := ?_)
  refine sl_nil ?_
  refine sp_then ?_
  refine sw_seq ?_
  refine sw_region ?_
  refine r_assign (k := ?_)
  refine sl_nil ?_
  refine sp_then ?_
  refine sw_ret ?_
  refine sp_retv rfl rfl (.tmp rfl) rfl rfl ⟨rfl, rfl, rfl⟩ (by simp) rfl (by simp)

def yes : Bool → Bool := fun _ => true
theorem c_rput (p : PairV) (h0 : p.d0.ok) (h1 : p.d1.ok) (hl : ¬ (liveN p).toNat = 0) (a : AncV) (hok : a.mark.key.ok) (hc0 : p.d0.cache.xs.length < 1000) (hc1 : p.d1.cache.xs.length < 1000) :
    Ctr Tryd.prog GW 32 [p.v, a.v] [] [p.d0.rp, p.d0.rc, p.d0.rb, p.d1.rp, p.d1.rc, p.d1.rb, a.mark.key.res]
      (retF fun v Φ' => ∃ s : PairV, v = .tuple #[s.v, vi (encV a).2] ∧ PutI p a yes 2 s ∧ Φ' = s.ress) := by
  refine Ctr.intro Tryd.func32 (by kernel_rfl) rfl Tryd.ntmps32 rfl rfl rfl fun w' X => ?_
  refine sw_seq ?_
  refine sw_region ?_
  refine r_box (cs := p.cs) (by exact rfl) rfl (by exact rfl) fun b1 => ?_
  refine r_box (cs := a.cs) (by exact rfl) rfl (by exact rfl) fun b2 => ?_
  refine r_alloc (by exact z63) (by exact rfl) (by exact rfl) fun b3 => ?_
  refine r_assign (k := ?_)
  refine sl_nil ?_
  refine sp_then ?_
  refine sw_seq ?_
  refine sw_region ?_
  refine r_load_all (k := ?_)
  refine r_load_all (k := ?_)
  refine f_have (φ := Res.pure True) (fun _ _ _ => trivial) ?_
  refine r_callF (c_putG p h0 h1 hl a hok hc0 hc1 70 [] (Res.pure True) yes fun k _ => c_put1 GW (p.get k) _) (by exact rfl) (by exact rfl) (by exact rfl) (PhAll.all (by repeat' (first | trivial | exact .head _ | apply And.intro | apply List.Mem.tail))) (by exact rfl) ?_
  rintro _ _ ⟨s, rfl, hs, rfl⟩
  refine r_move (k := ?_)
  refine r_ext (k := ?_)
  refine r_ext (k := ?_)
  refine r_ext (k := ?_)
  refine r_alloc (by exact z63) (by exact rfl) (by exact rfl) fun b4 => ?_
  refine r_store_all (k := ?_)
  refine r_assign (k := ?_)
  refine r_assign (k := ?_)
  refine sl_nil ?_
  refine sp_then ?_
  refine sw_seq ?_
  refine sw_region ?_
  refine r_load_all (k := ?_)
  refine r_move (k := ?_)
  refine r_store_all (k := ?_)
  refine r_assign (k := ?_)
  refine sl_nil ?_
  refine sp_then ?_
  refine sw_ret ?_
  refine sp_ret2 rfl rfl (.agg rfl (tz rfl) rfl (.tail _ (.head _))) (.tmp rfl) rfl rfl ⟨rfl, s, rfl, hs, rfl⟩ (by simp) rfl (fun φ h => List.mem_append_left _ h)

theorem c_renew2 (G : Res) (p : PairV) : Ctr Tryd.prog G 37 [p.v, vi 2] [] [] (ret1 (.tuple #[p.v, vi 2])) := by
  refine Ctr.intro Tryd.func37 (by kernel_rfl) rfl Tryd.ntmps37 rfl rfl rfl fun w' X => ?_
  refine sw_seq ?_
  refine sw_region ?_
  refine r_box (cs := p.cs) (by exact rfl) rfl (by exact rfl) fun b1 => ?_
  refine r_alloc (by exact z63) (by exact rfl) (by exact rfl) fun b3 => ?_
  refine r_assign (k := ?_)
  refine sl_nil ?_
  refine sp_then ?_
  refine sw_seq ?_
  refine sw_block ?_
  refine sw_seq ?_
  refine sw_region ?_
  refine r_move (k := ?_)
  refine r_lss (k := ?_)
  refine r_move (k := ?_)
  refine r_re (t := 13) (v' := vb false) rfl rfl ?_
  refine gd_yes (k := ?_)
  refine r_move (k := ?_)
  refine gd_yes (k := ?_)
  refine r_gtr (k := ?_)
  refine rd_pick_f (k := ?_)
  refine r_assign (k := ?_)
  refine sl_nil ?_
  refine sp_then ?_
  refine w_re (t := 10) (v' := vb true) rfl rfl ?_
  refine swd_t (h := ?_)
  refine sw_seq ?_
  refine sw_region ?_
  refine r_load_all (k := ?_)
  refine r_store_all (k := ?_)
  refine r_assign (k := ?_)
  refine sl_nil ?_
  refine sp_then ?_
  refine sw_ret ?_
  refine sp_block_ret ?_
  refine sp_then_ret ?_
  refine sp_ret2 rfl rfl (.agg rfl (tz rfl) rfl (.head _)) (.tmp rfl) rfl rfl ⟨rfl, rfl, rfl⟩ (by simp) rfl (by simp)
end Go.Proofs.YtjahiohlekdhoaaDoor

namespace Go.Proofs.YtjahiohlekdhoaaDoor
open Go

section
variable {c : Ctx} {ρ : List (Nat × Value)} {B : List Own} {Φ : List Res} {Ψ : List JR} {Q : Post} {ι : Type}
def CutE (c : Ctx) (ρ : ι → List (Nat × Value)) (B : ι → List Own) (Φ : ι → List Res) (Ψ : List JR) : Post
  | .normal, a, w => ∃ i, St c (ρ i) (B i) (Φ i) Ψ a w
  | _, _, _ => False
theorem sw_cutE (ρ' : ι → List (Nat × Value)) (B' : ι → List Own) (Φ' : ι → List Res) (Ψ' : List JR) {X Y : Code} (h : SW c ρ B Φ Ψ X (CutE c ρ' B' Φ' Ψ')) (k : ∀ i, SW c (ρ' i) (B' i) (Φ' i) Ψ' Y Q) : SW c ρ B Φ Ψ (.seq X Y) Q :=
  sw_seq fun a w hs => wpIn_mono (h a w hs) fun e a' w' q => by
    cases e with
    | normal => obtain ⟨i, q⟩ := q; exact k i a' w' q
    | _ => exact q.elim
theorem sp_cutE {ρ' : ι → List (Nat × Value)} {B' : ι → List Own} {Φ' : ι → List Res} (i : ι) (hρ : LkAll ρ (ρ' i)) (hΦ : PhAll Φ (Φ' i)) (hB : B = B' i) : SP c ρ B Φ Ψ .normal (CutE c ρ' B' Φ' Ψ) := fun a w hs =>
  ⟨i, Ent.mk' (c := c) (B := B' i) (Ψ := Ψ) hρ hΦ a w (hB ▸ hs)⟩
/-- The same where the sequence is opened already. -/
theorem sw_thenE (ρ' : ι → List (Nat × Value)) (B' : ι → List Own) (Φ' : ι → List Res) (Ψ' : List JR) {X Y : Code} (h : SW c ρ B Φ Ψ X (CutE c ρ' B' Φ' Ψ')) (k : ∀ i, SW c (ρ' i) (B' i) (Φ' i) Ψ' Y Q) : SW c ρ B Φ Ψ X (Then c Y Q) :=
  fun a w hs => wpIn_mono (h a w hs) fun e a' w' q => by
    cases e with
    | normal => obtain ⟨i, q⟩ := q; exact k i a' w' q
    | _ => exact q.elim
theorem sw_then (ρ' : List (Nat × Value)) (B' : List Own) (Φ' : List Res) (Ψ' : List JR) {X Y : Code} (h : SW c ρ B Φ Ψ X (CutQ c ρ' B' Φ' Ψ')) (k : SW c ρ' B' Φ' Ψ' Y Q) : SW c ρ B Φ Ψ X (Then c Y Q) :=
  fun a w hs => wpIn_mono (h a w hs) fun e a' w' q => by
    cases e with
    | normal => exact k a' w' q
    | _ => exact q.elim
end

section
variable {c : Ctx} {ρ : List (Nat × Value)} {B : List Own} {Φ : List Res} {Ψ : List JR} {ops : Array Oper} {rest : List Oper} {Q : Post} {d ty t : Nat} {ps : String} {af : Array Edge} {x y : Operand} {cs vs : List Value} {v : Value}
theorem tFd_inv {P : Program} {t i f s : Nat} {ag : Bool} (h : tFd P t i = some (f, ag, s)) : ∃ (fs : Array Field) (fl : Field), P.underlying t = some (.struct fs) ∧ fs[i]? = some fl ∧ fl.offset = f ∧ tSz P fl.type = some (ag, s) := by
  unfold tFd at h
  split at h
  · rename_i fs hu
    split at h
    · rename_i fl hf
      split at h
      · rename_i ag' s' hsz
        cases h
        exact ⟨fs, fl, hu, hf, rfl, hsz⟩
      · cases h
    · cases h
  · cases h
/-- A field of a struct's value. -/
theorem r_field1 {f s i : Nat} (ht : tFd c.P t i = some (f, false, s) := by exact tf rfl rfl) (hx : ev ρ x = some (.agg cs.toArray) := by exact rfl) (hv : cs[f]? = some v := by exact rfl) (hb : Nat.blt d c.nt = true := by exact rfl) (k : SL c ((d, v) :: ρ) B Φ Ψ ops rest Q) :
    SL c ρ B Φ Ψ ops (⟨some d, .field t x i, ty, ps, af, none⟩ :: rest) Q :=
  r_val rfl (fun _ => by simp) rfl hb (fun a w hs => by
    obtain ⟨fs, fl, hu, hf, rfl, hsz⟩ := tFd_inv ht
    simp [execOp, hs.ev hx, Instr.field, run_underlying hu, hf, asAgg, part, run_isAgg hsz, hv]) k
theorem r_fieldA {f s i : Nat} (ht : tFd c.P t i = some (f, true, s) := by exact tf rfl rfl) (hx : ev ρ x = some (.agg cs.toArray) := by exact rfl) (hv : part' cs f s = vs := by exact rfl) (hb : Nat.blt d c.nt = true := by exact rfl) (k : SL c ((d, .agg vs.toArray) :: ρ) B Φ Ψ ops rest Q) :
    SL c ρ B Φ Ψ ops (⟨some d, .field t x i, ty, ps, af, none⟩ :: rest) Q :=
  r_val rfl (fun _ => by simp) rfl hb (fun a w hs => by
    obtain ⟨fs, fl, hu, hf, rfl, hsz⟩ := tFd_inv ht
    simp [execOp, hs.ev hx, Instr.field, run_underlying hu, hf, asAgg, part, run_isAgg hsz, run_sizeOf hsz]
    exact hv) k
end

section
variable {c : Ctx} {ρ : List (Nat × Value)} {B : List Own} {Φ : List Res} {Ψ : List JR} {ops : Array Oper} {Q : Post} {I : List Nat → World → Prop} {todo : List Nat}
/-- Three operations that may come next. -/
theorem ra3 {i j k : Nat} (t1 t2 t3 : List Nat) {o1 o2 o3 : Oper} (hr : (todo.filter fun i => rdy ops todo i) = [i, j, k]) (ho : ops[i]? = some o1) (he : todo.erase i = t1) (hp : ops[j]? = some o2) (hf : todo.erase j = t2) (hq : ops[k]? = some o3) (hg : todo.erase k = t3)
    (h1 : SL c ρ B Φ Ψ ops [o1] (NX c I ops t1 Q)) (h2 : SL c ρ B Φ Ψ ops [o2] (NX c I ops t2 Q)) (h3 : SL c ρ B Φ Ψ ops [o3] (NX c I ops t3 Q)) : RA c I ρ B Φ Ψ ops todo Q :=
  ra_split [i, j, k] (by cases todo with
    | nil => cases hr
    | cons x l => rfl) hr fun q hq' => by
    cases hq' with
    | head => rw [ho, he]; exact h1
    | tail _ hq' => cases hq' with
      | head => rw [hp, hf]; exact h2
      | tail _ hq' => cases hq' with
        | head => rw [hq, hg]; exact h3
        | tail _ h => cases h
end
section
variable {c : Ctx} {ρ : List (Nat × Value)} {B : List Own} {Φ : List Res} {Ψ : List JR} {t ty : Nat}
theorem q_buildP {parts : List (Nat × Operand)} {ps' : List (Nat × Value)} (cells : List Value) (hx : evp ρ parts = some ps') (h : c.P.built t ps' = some cells.toArray) : Qt c ρ B Φ Ψ (.build t parts.toArray) ty (.agg cells.toArray) := fun a w hs d ps af g => by
  have := evp_map (fun x v hx => hs.ev hx) hx
  have h2 := run_build w t ps'.toArray cells.toArray (by simpa using h)
  simp [execOp, this, h2]
end
theorem and_oneI (m : Int) : IntKind.i64.wrap (((BitVec.ofInt 64 m &&& BitVec.ofInt 64 1).toNat : Nat) : Int) = m % 2 := by
  have h1 : (BitVec.ofInt 64 1).toNat = 1 := by rfl
  rw [BitVec.toNat_and, h1, Nat.and_one_is_mod, BitVec.toNat_ofInt]
  have h2 : (((m % ((2 ^ 64 : Nat) : Int)).toNat : Nat) : Int) = m % ((2 ^ 64 : Nat) : Int) := Int.toNat_of_nonneg (Int.emod_nonneg _ (by decide))
  have h3 : (((m % ((2 ^ 64 : Nat) : Int)).toNat % 2 : Nat) : Int) = m % 2 := by
    rw [Int.natCast_emod, h2]
    have : ((2 ^ 64 : Nat) : Int) = 18446744073709551616 := by rfl
    omega
  rw [h3, IntKind.wrap_i64]
  omega
section
variable {c : Ctx} {ρ : List (Nat × Value)} {B : List Own} {Φ : List Res} {Ψ : List JR} {ops : Array Oper} {rest : List Oper} {Q : Post} {d ty : Nat} {ps : String} {af : Array Edge} {x y : Operand} {xt yt : TypeId} {m : Int}
/-- 'm & 1'. -/
theorem r_andI1 (hx : ev ρ x = some (vi m) := by exact rfl) (hy : ev ρ y = some (vi 1) := by exact rfl) (hb : Nat.blt d c.nt = true := by exact rfl) (k : SL c ((d, vi (m % 2)) :: ρ) B Φ Ψ ops rest Q) : SL c ρ B Φ Ψ ops (⟨some d, .binOp .and xt x y yt, ty, ps, af, none⟩ :: rest) Q :=
  r_bin hx hy hb (fun w => by
    have e := and_oneI m
    simp only [Sem.run_bind, eqGuard, binOp, Op.intBits, IntKind.bits]
    exact congrArg (fun n => Result.ok (Value.int .i64 n) w) e) k
end
end Go.Proofs.YtjahiohlekdhoaaDoor

namespace Go.Proofs.YtjahiohlekdhoaaDoor
open Go
set_option maxHeartbeats 4000000
set_option maxRecDepth 4000
attribute [local irreducible] SW SL SP RA Then FQ IQ LoopQ RQ AQ NX CutQ Exit.noGoto
attribute [local irreducible] CutE

theorem z49' : tZ Tryd.prog 49 = some (.agg #[vb false, vb false, vb false, vb false]) := by kernel_rfl
/-- What is known between two places. -/
structure NSt where
  l0 : AncV
  l1 : AncV
  a : AncV
  th : Nat → Bool
def NSt.l (s : NSt) (b : Bool) : AncV := bif b then s.l1 else s.l0
def NSt.lc (s : NSt) : List Value := s.l0.cs ++ s.l1.cs
def NSt.tc (s : NSt) : List Value := [vb (s.th 0), vb (s.th 1), vb (s.th 2), vb (s.th 3)]
def NSt.setL (s : NSt) (b : Bool) (y : AncV) : NSt := bif b then { s with l1 := y } else { s with l0 := y }
def NSt.up (s : NSt) (b : Bool) (y : AncV) : NSt := if (s.l b).tx.toNat < y.tx.toNat then s.setL b y else s
def NSt.see (s : NSt) (k : Nat) (y : AncV) (v : Bool) : NSt :=
  if y.tx.toNat = 0 ∨ v = true then s
  else if s.a.tx.toNat < y.tx.toNat then ⟨s.l0, s.l1, y, fun j => if j = k then true else s.th j⟩ else ⟨s.l0, s.l1, s.a, fun j => if j = k then true else s.th j⟩
def NSt.zero : NSt := ⟨zeroA, zeroA, zeroA, fun _ => false⟩
def atA (A : List AncV) (b : Bool) (k : Nat) : AncV := A.getD (bN b * 4 + k) zeroA
def NSt.step (A : List AncV) (s : NSt) (x : Nat × Nat) : NSt := (s.up (decide (x.1 = 1)) (atA A (decide (x.1 = 1)) x.2)).see x.2 (atA A (decide (x.1 = 1)) x.2) (voidA A (decide (x.1 = 1)) x.2)
def NSt.all (A : List AncV) : NSt := placesL.foldl (NSt.step A) NSt.zero
def doubtN (th : Nat → Bool) : Nat → Nat
  | 0 => 0
  | n + 1 => doubtN th n + if th n = true then 0 else 1
theorem doubtN_le (th : Nat → Bool) : ∀ n, doubtN th n ≤ n
  | 0 => Nat.le_refl _
  | n + 1 => by
    have := doubtN_le th n
    unfold doubtN; split <;> omega
def newE (live : UInt8) (s : NSt) : Int :=
  if live.toNat = 0 then 30
  else if s.l0.tx.toNat = 0 ∧ s.l1.tx.toNat = 0 then 120
  else if s.a.tx.toNat = 0 ∨ (0 < s.l0.tx.toNat ∧ 0 < s.l1.tx.toNat ∧ hasL s.l0.live true = false ∧ hasL s.l1.live false = false) then 121
  else 0
theorem NSt.setL_lc (s : NSt) (b : Bool) (y : AncV) : splice s.lc (0 + (ib b).toNat * 14) y.cs = (s.setL b y).lc := by cases b <;> rfl
theorem NSt.tc_set (s : NSt) (k : Nat) (hk : k < 4) (a : AncV) : splice s.tc (0 + k * 1) [vb true] = NSt.tc ⟨s.l0, s.l1, a, fun j => if j = k then true else s.th j⟩ := by
  obtain rfl | rfl | rfl | rfl : k = 0 ∨ k = 1 ∨ k = 2 ∨ k = 3 := by omega
  all_goals rfl

theorem NSt.tc_get (s : NSt) (k : Nat) (hk : k < 4) : s.tc[k]? = some (vb (s.th k)) := by
  obtain rfl | rfl | rfl | rfl : k = 0 ∨ k = 1 ∨ k = 2 ∨ k = 3 := by omega
  all_goals rfl
theorem NSt.see_mem {A : List AncV} {s : NSt} {k : Nat} {y : AncV} {v : Bool} (h : s.a = zeroA ∨ s.a ∈ A) (hy : ¬ y.tx.toNat = 0 → y ∈ A) : (s.see k y v).a = zeroA ∨ (s.see k y v).a ∈ A := by
  unfold NSt.see
  split
  · exact h
  · rename_i h1
    split
    · exact .inr (hy fun h => h1 (.inl h))
    · exact h
theorem NSt.up_a (s : NSt) (b : Bool) (y : AncV) : (s.up b y).a = s.a := by
  unfold NSt.up; split
  · cases b <;> rfl
  · rfl
theorem NSt.fold_mem (A : List AncV) : ∀ (L : List (Nat × Nat)) (s : NSt), (s.a = zeroA ∨ s.a ∈ A) → (L.foldl (NSt.step A) s).a = zeroA ∨ (L.foldl (NSt.step A) s).a ∈ A
  | [], _, h => h
  | x :: L, s, h => NSt.fold_mem A L _ (NSt.see_mem (by rw [NSt.up_a]; exact h) fun hy => by
    unfold atA at hy ⊢
    rw [List.getD_eq_getElem?_getD] at hy ⊢
    cases e : A[bN (decide (x.1 = 1)) * 4 + x.2]? with
    | none => rw [e] at hy; exact absurd rfl hy
    | some y => exact List.mem_of_getElem? e)

theorem c_newestR (p : PairV) (h0 : p.d0.ok) (h1 : p.d1.ok) : Ctr Tryd.prog GW 36 [p.v] [] p.ress (retF fun v Φ' => ∃ (A : List AncV) (a : AncV), v = .tuple #[a.v, vi (doubtN (NSt.all A).th 4 : Nat), vi (newE (liveN p) (NSt.all A))] ∧
    A.map AncV.pure = (List.range 4).map p.d0.pure.slot ++ (List.range 4).map p.d1.pure.slot ∧ a.mark.key.ok ∧ (newE (liveN p) (NSt.all A) = 0 → a = (NSt.all A).a) ∧ Φ' = [a.mark.key.res]) := by
  refine Ctr.intro Tryd.func36 (by kernel_rfl) rfl Tryd.ntmps36 rfl rfl rfl fun w' X => ?_
  refine sw_seq ?_
  refine sw_region ?_
  refine r_box (cs := p.cs) (by exact rfl) rfl (by exact rfl) fun b1 => ?_
  refine r_alloc (by exact z32) (cs := zeroA.cs) (by kernel_rfl) (by exact rfl) fun b2 => ?_
  refine r_assign (k := ?_)
  refine r_assign (k := ?_)
  refine sl_nil ?_
  refine sp_then ?_
  refine sw_seq ?_
  refine sw_region ?_
  refine r_load_all (k := ?_)
  refine r_callF (c_slots p h0 h1) (by exact rfl) (by exact rfl) (by exact rfl) (fun φ h => h) (by exact rfl) ?_
  rintro _ _ ⟨A, rfl, hA, hko, rfl⟩
  have hA8 : A.length = 8 := by have := congrArg List.length hA; simpa using this
  have hl : (ancsV A).length = 112 := by rw [ancsV_len, hA8]
  refine r_alloc (v := .agg (ancsV (List.replicate 8 zeroA)).toArray) (by kernel_rfl) (cs := ancsV (List.replicate 8 zeroA)) rfl (by exact rfl) fun b5 => ?_
  refine r_store_all (cs := ancsV (List.replicate 8 zeroA)) (vs := ancsV A) (by exact tz rfl) (by exact rfl) (by exact rfl) (by iterate 24 (first | exact .hd | apply Upd.tl | skip)) rfl hl (ancsV_one A) rfl ?_
  refine sl_nil ?_
  refine sp_then ?_
  refine sw_seq ?_
  refine sw_region ?_
  refine r_alloc (by exact z107) (cs := NSt.zero.lc) rfl (by exact rfl) fun b6 => ?_
  refine sl_nil ?_
  refine sp_then ?_
  refine sw_seq ?_
  refine sw_region ?_
  refine r_alloc (by exact z49') (cs := NSt.zero.tc) rfl (by exact rfl) fun b7 => ?_
  refine sl_nil ?_
  refine sp_then ?_
  refine sw_seq ?_
  refine sw_seq ?_
  refine sw_region ?_
  refine r_call1 (c_places GW) (by exact rfl) (by exact rfl) (by exact rfl) (by simp) (by exact rfl) ?_
  refine sl_nil ?_
  refine sp_then ?_
  refine sw_block ?_
  refine sw_rangeA (ι := Unit) (ps := [17]) (Bp := []) (i_places GW) (fun s _ => [.box b7 s.tc 49, .box b6 s.lc 107, .box b5 (ancsV A) 73, .box b2 s.a.cs 32, .box b1 p.cs 63]) (fun _ _ => [keysR A]) (NSt.step A) (fun _ _ => True) NSt.zero () rfl rfl rfl (adm_true _ _) (by simp) (by intro φ h; simp at h; simp [h]) (fun _ _ => rfl) rfl (fun x vs V w h => by obtain ⟨_, rfl⟩ := h; rfl) ?_ ?_
  · rintro l mk rec w X U K s _ ⟨i, k⟩ vs hrec _ ht
    refine w_pure ?_
    rintro ⟨⟨hx1, hx2⟩, rfl⟩
    dsimp only at hx1 hx2 ⊢
    obtain ⟨b, rfl⟩ : ∃ b, i = bN b := by
      obtain rfl | rfl : i = 0 ∨ i = 1 := by omega
      · exact ⟨false, rfl⟩
      · exact ⟨true, rfl⟩
    have ek : ((bN b : Nat) : Int) = ib b := by cases b <;> rfl
    have hbn : (ib b).toNat = bN b := by cases b <;> rfl
    have hjl : bN b * 4 + k < A.length := by cases b <;> simp [bN] <;> omega
    have hstep : NSt.step A s (bN b, k) = (s.up b (atA A b k)).see k (atA A b k) (voidA A b k) := by
      unfold NSt.step; rw [show decide ((bN b, k).1 = 1) = b by cases b <;> rfl]
    have hy : atA A b k = A[bN b * 4 + k] := by simp [atA, List.getD, hjl]
    obtain ⟨y, ey⟩ : ∃ y, y = atA A b k := ⟨_, rfl⟩
    rw [hstep, ← ey]
    rw [← ey] at hy
    rw [ek]
    refine sw_region ?_
    refine r_alloc (by exact z112) (cs := [vi 0, vi 0]) rfl (by exact rfl) fun b3 => ?_
    refine r_store_all (k := ?_)
    refine sl_nil ?_
    refine sp_asgU hrec rfl (.tl .hd) ?_
    refine sw_block ?_
    refine sw_seq ?_
    
    refine sw_draw [(none, .box b3 [vi (ib b), vi (k : Int)] 112), (none, .box b5 (ancsV A) 73)] [] [0, 1, 2, 3, 4, 5, 6, 7, 8] mix (by kernel_rfl) rfl ?_
    refine ra_first 0 [] [1, 2, 3, 4, 5, 6, 7, 8] (hq := by exact q_fieldAddr) (k := ?_)
    refine ra_first 1 [(none, .box b3 [vi (ib b), vi (k : Int)] 112), (none, .box b5 (ancsV A) 73)] [2, 3, 4, 5, 6, 7, 8] (hq := by first | exact q_load_one | exact q_load_all | exact q_load_fr1 | exact q_load_fr) (k := ?_)
    refine ra_first 2 [] [3, 4, 5, 6, 7, 8] (hq := by exact q_fieldAddr) (k := ?_)
    refine ra_first 3 [(none, .box b3 [vi (ib b), vi (k : Int)] 112), (none, .box b5 (ancsV A) 73)] [4, 5, 6, 7, 8] (hq := by first | exact q_load_one | exact q_load_all | exact q_load_fr1 | exact q_load_fr) (k := ?_)
    refine ra_first 4 [] [5, 6, 7, 8] (hq := by exact q_idx_arr (i := bN b) (m := ib b) (by exact ta rfl) (by exact rfl) (by exact rfl) (by cases b <;> decide) (by cases b <;> decide) hbn) (k := ?_)
    refine ra_first 5 [] [6, 7, 8] (hq := by exact q_idx_arr (i := k) (m := (k : Int)) (by exact ta rfl) (by exact rfl) (by exact rfl) (by omega) (by omega) (Int.toNat_natCast k)) (k := ?_)
    refine ra_first 6 [(none, .box b3 [vi (ib b), vi (k : Int)] 112), (none, .box b5 (ancsV A) 73)] [7, 8] (hq := by exact q_load_agg (vs := y.cs) (by exact tz rfl) (by exact rfl) (.tail _ (.head _)) (by rw [show 0 + bN b * 56 + k * 14 = (bN b * 4 + k) * 14 by omega, hy]; exact ancsV_at A _ hjl) rfl) (k := ?_)
    refine ra1 (i := 7) [8] (h := ?_)
    refine r_alloc (by exact z32) (cs := zeroA.cs) (by kernel_rfl) (by exact rfl) fun b9 => ?_
    refine sl_nil ?_
    refine sp_nx (k := ?_)
    refine ra1 (i := 8) [] (h := ?_)
    refine r_store_all (k := ?_)
    refine sl_nil ?_
    refine sp_nx (k := ?_)
    refine ra_done ?_
    refine sp_then ?_
    obtain ⟨s1, es1⟩ : ∃ s1, s1 = s.up b y := ⟨_, rfl⟩
    rw [← es1]
    refine sw_cut [(1, .pointer (some ⟨b1, 0, none⟩)), (2, .pointer (some ⟨b2, 0, none⟩)), (5, .pointer (some ⟨b5, 0, none⟩)), (6, .pointer (some ⟨b6, 0, none⟩)), (7, .pointer (some ⟨b7, 0, none⟩)), (8, .pointer (some ⟨b3, 0, none⟩)), (9, .pointer (some ⟨b9, 0, none⟩))]
      [.box b9 y.cs 32, .box b3 [vi (ib b), vi (k : Int)] 112, .obj l (.loop (rec .busy none)), .obj mk (.deferred (some [])), .box b7 s1.tc 49, .box b6 s1.lc 107, .box b5 (ancsV A) 73, .box b2 s1.a.cs 32, .box b1 p.cs 63] [keysR A] [] ?_ ?_
    · refine sw_seq ?_
      
      refine sw_draw [(none, .box b9 y.cs 32), (none, .box b3 [vi (ib b), vi (k : Int)] 112), (none, .box b6 s.lc 107)] [] [0, 1, 2, 3, 4, 5, 6, 7] mix (by kernel_rfl) rfl ?_
      refine ra_first 0 [] [1, 2, 3, 4, 5, 6, 7] (hq := by exact q_fieldAddr) (k := ?_)
      refine ra_first 1 [(none, .box b9 y.cs 32), (none, .box b3 [vi (ib b), vi (k : Int)] 112), (none, .box b6 s.lc 107)] [2, 3, 4, 5, 6, 7] (hq := by first | exact q_load_one | exact q_load_all | exact q_load_fr1 | exact q_load_fr) (k := ?_)
      refine ra_first 2 [] [3, 4, 5, 6, 7] (hq := by exact q_fieldAddr) (k := ?_)
      refine ra_first 3 [(none, .box b9 y.cs 32), (none, .box b3 [vi (ib b), vi (k : Int)] 112), (none, .box b6 s.lc 107)] [4, 5, 6, 7] (hq := by first | exact q_load_one | exact q_load_all | exact q_load_fr1 | exact q_load_fr) (k := ?_)
      refine ra_first 4 [] [5, 6, 7] (hq := by exact q_idx_arr (i := bN b) (m := ib b) (by exact ta rfl) (by exact rfl) (by exact rfl) (by cases b <;> decide) (by cases b <;> decide) hbn) (k := ?_)
      refine ra_first 5 [] [6, 7] (hq := by exact q_fieldAddr) (k := ?_)
      refine ra_first 6 [(none, .box b9 y.cs 32), (none, .box b3 [vi (ib b), vi (k : Int)] 112), (none, .box b6 s.lc 107)] [7] (hq := by exact q_load_one (v := v32 (s.l b).tx) (by exact tz rfl) (by exact rfl) (.tail _ (.tail _ (.head _))) (by cases b <;> rfl)) (k := ?_)
      refine ra_first 7 [] [] (hq := by exact q_gtr) (k := ?_)
      refine ra_done ?_
      refine sp_then ?_
      refine sw_cond rfl (fun h => ?_) (fun h => ?_)
      · have h := of_decide_eq_true h
        have e : s1 = s.setL b y := by rw [es1]; exact if_pos (by omega)
        refine sw_region ?_
        refine r_fieldAddr (k := ?_)
        refine r_load_one (k := ?_)
        refine r_load_all (k := ?_)
        refine r_idx_arr (k := ?_)
        refine r_store (vs := y.cs) (cs' := (s.setL b y).lc) (by exact tz rfl) (by exact rfl) (by exact rfl) (by iterate 24 (first | exact .hd | apply Upd.tl | skip)) rfl rfl rfl (by cases b <;> exact Nat.le_of_ble_eq_true rfl) (NSt.setL_lc s b y) ?_
        refine sl_nil ?_
        refine sp_cutB (by repeat' (first | trivial | exact rfl | apply And.intro)) (by repeat' (first | trivial | exact .head _ | apply And.intro | apply List.Mem.tail)) ?_
        rw [e]; cases b <;> rfl
      · have h := of_decide_eq_false h
        have e : s1 = s := by rw [es1]; exact if_neg (by omega)
        refine sw_skip ?_
        refine sp_cutB (by repeat' (first | trivial | exact rfl | apply And.intro)) (by repeat' (first | trivial | exact .head _ | apply And.intro | apply List.Mem.tail)) ?_
        rw [e]
    have hround : ∀ (v : Bool) (s2 : NSt), s2 = s1.see k y v → s1.see k y v = s2 := fun _ _ h => h.symm
    by_cases hy0 : y.tx.toNat = 0
    · rw [hround _ s1 (by unfold NSt.see; rw [if_pos (.inl hy0)])]
      refine sw_seq ?_
      refine sw_seq ?_
      refine sw_region ?_
      refine r_fieldAddr (k := ?_)
      refine r_load_one (k := ?_)
      refine r_eql (k := ?_)
      refine r_move (k := ?_)
      refine r_re (t := 40) (v' := vb true) rfl (by simp [hy0]) ?_
      refine gd_no (k := ?_)
      refine gd_no (k := ?_)
      refine gd_no (k := ?_)
      refine gd_no (k := ?_)
      refine gd_no (k := ?_)
      refine gd_no (k := ?_)
      refine rd_pick_t (k := ?_)
      refine sl_nil ?_
      refine sp_then ?_
      refine swd_t (h := ?_)
      refine sw_exit ?_
      refine sp_then_exit ?_
      refine sp_block_exit ?_
      exact sp_round (ι := Unit) (i' := ()) ht hrec rfl (.cons _ (.cons _ (List.Sublist.refl _))) (PhAll.all (by repeat' (first | trivial | exact .head _ | apply And.intro | apply List.Mem.tail)))
    refine sw_seq ?_
    refine sw_seq ?_
    refine sw_region ?_
    refine r_fieldAddr (k := ?_)
    refine r_load_one (k := ?_)
    refine r_eql (k := ?_)
    refine r_move (k := ?_)
    refine r_re (t := 40) (v' := vb false) rfl (by simp [hy0]) ?_
    refine gd_yes (k := ?_)
    refine r_load_all (cs := ancsV A) (by exact tz rfl) (by exact rfl) (by iterate 24 (first | exact .head _ | apply List.Mem.tail | skip)) hl (by exact rfl) ?_
    refine gd_yes (k := ?_)
    refine r_fieldAddr (k := ?_)
    refine gd_yes (k := ?_)
    refine r_load_one (k := ?_)
    refine gd_yes (k := ?_)
    refine r_fieldAddr (k := ?_)
    refine gd_yes (k := ?_)
    refine r_load_one (k := ?_)
    refine gd_yes (k := ?_)
    refine r_call1 (c_void GW A hA8 b k hx2) (by exact rfl) (by exact rfl) (by exact rfl) (by simp) (by exact rfl) ?_
    refine rd_pick_f (k := ?_)
    refine sl_nil ?_
    refine sp_then ?_
    cases hv : voidA A b k
    · refine swd_f (h := ?_)
      refine sw_skip ?_
      refine sp_then ?_
      refine sw_seq ?_
      refine sw_region ?_
      refine r_fieldAddr (k := ?_)
      refine r_load_one (k := ?_)
      refine r_idx_arr (k := ?_)
      by_cases ha : s1.a.tx.toNat < y.tx.toNat
      · rw [hround false ⟨s1.l0, s1.l1, y, fun j => if j = k then true else s1.th j⟩ (by unfold NSt.see; rw [if_neg (by simp [hy0]), if_pos ha])]
        refine r_store (vs := [vb true]) (cs' := NSt.tc ⟨s1.l0, s1.l1, y, fun j => if j = k then true else s1.th j⟩) (by exact tz rfl) (by exact rfl) (by exact rfl) (by iterate 24 (first | exact .hd | apply Upd.tl | skip)) rfl rfl rfl (by simp [NSt.tc]; omega) (NSt.tc_set s1 k hx2 y) ?_
        refine sl_nil ?_
        refine sp_then ?_
        refine sw_seq ?_
        refine sw_region ?_
        refine r_fieldAddr (k := ?_)
        refine r_load_one (k := ?_)
        refine r_fieldAddr (k := ?_)
        refine r_load_one (k := ?_)
        refine r_gtr (k := ?_)
        refine sl_nil ?_
        refine sp_then ?_
        refine w_re (t := 55) (v' := vb true) rfl (by simp; omega) ?_
        refine swd_t (h := ?_)
        refine sw_region ?_
        refine r_load_all (k := ?_)
        refine r_store_all (k := ?_)
        refine sl_nil ?_
        refine sp_block ?_
        exact sp_round (ι := Unit) (i' := ()) ht hrec rfl (.cons _ (.cons _ (List.Sublist.refl _))) (PhAll.all (by repeat' (first | trivial | exact .head _ | apply And.intro | apply List.Mem.tail)))
      · rw [hround false ⟨s1.l0, s1.l1, s1.a, fun j => if j = k then true else s1.th j⟩ (by unfold NSt.see; rw [if_neg (by simp [hy0]), if_neg ha])]
        refine r_store (vs := [vb true]) (cs' := NSt.tc ⟨s1.l0, s1.l1, s1.a, fun j => if j = k then true else s1.th j⟩) (by exact tz rfl) (by exact rfl) (by exact rfl) (by iterate 24 (first | exact .hd | apply Upd.tl | skip)) rfl rfl rfl (by simp [NSt.tc]; omega) (NSt.tc_set s1 k hx2 s1.a) ?_
        refine sl_nil ?_
        refine sp_then ?_
        refine sw_seq ?_
        refine sw_region ?_
        refine r_fieldAddr (k := ?_)
        refine r_load_one (k := ?_)
        refine r_fieldAddr (k := ?_)
        refine r_load_one (k := ?_)
        refine r_gtr (k := ?_)
        refine sl_nil ?_
        refine sp_then ?_
        refine w_re (t := 55) (v' := vb false) rfl (by simp; omega) ?_
        refine swd_f (h := ?_)
        refine sw_skip ?_
        refine sp_block ?_
        exact sp_round (ι := Unit) (i' := ()) ht hrec rfl (.cons _ (.cons _ (List.Sublist.refl _))) (PhAll.all (by repeat' (first | trivial | exact .head _ | apply And.intro | apply List.Mem.tail)))
    · rw [hround true s1 (by unfold NSt.see; rw [if_pos (.inr rfl)])]
      refine swd_t (h := ?_)
      refine sw_exit ?_
      refine sp_then_exit ?_
      refine sp_block_exit ?_
      exact sp_round (ι := Unit) (i' := ()) ht hrec rfl (.cons _ (.cons _ (List.Sublist.refl _))) (PhAll.all (by repeat' (first | trivial | exact .head _ | apply And.intro | apply List.Mem.tail)))
  · rintro _ mk
    refine sp_block ?_
    refine sp_then ?_
    refine sw_seq ?_
    refine sw_seq ?_
    refine sw_region ?_
    refine r_load_all (k := ?_)
    refine r_move (k := ?_)
    refine sl_nil ?_
    refine sp_then ?_
    refine sw_block ?_
    rw [show placesL.foldl (NSt.step A) NSt.zero = NSt.all A from rfl]
    have hSa : (NSt.all A).a = zeroA ∨ (NSt.all A).a ∈ A := NSt.fold_mem A placesL NSt.zero (.inl rfl)
    refine w_have (φ := BS.nil.res) (fun V w _ i v hv => by simp [BS.nil, bv] at hv) ?_
    obtain ⟨S, eS⟩ : ∃ S, S = NSt.all A := ⟨_, rfl⟩
    rw [← eS] at hSa ⊢
    have hSok : S.a.mark.key.ok := hSa.elim (fun h => by rw [h]; exact ⟨Nat.le_refl _, Nat.zero_le _⟩) fun h => hko _ h
    refine w_have (φ := S.a.mark.key.res) (fun V w hw => hSa.elim (fun h => by rw [h]; exact hw _ (.head _)) fun h => hw (keysR A) (.tail _ (.head _)) _ h) ?_
    refine sw_loop (ι := { n : Nat // n ≤ 4 }) (fun n => [(1, .pointer (some ⟨b1, 0, none⟩)), (2, .pointer (some ⟨b2, 0, none⟩)), (3, vi (doubtN S.th n.1 : Nat)), (4, vi 0), (6, .pointer (some ⟨b6, 0, none⟩)), (57, .agg S.tc.toArray), (58, vi (n.1 : Int))])
      (fun _ => [.mark mk, .box b7 S.tc 49, .box b6 S.lc 107, .box b5 (ancsV A) 73, .box b2 S.a.cs 32, .box b1 p.cs 63]) (fun _ => [S.a.mark.key.res, BS.nil.res]) (fun _ => []) (fun n => 4 - n.1) ⟨0, by omega⟩ ?_ fun n => ?_
    · exact Ent.mk' (by repeat' (first | trivial | exact rfl | apply And.intro)) (by repeat' (first | trivial | exact .head _ | apply And.intro | apply List.Mem.tail))
    obtain ⟨n, hn⟩ := n
    dsimp only
    have hdl := doubtN_le S.th n
    refine sw_seq ?_
    refine sw_region ?_
    refine r_lss (k := ?_)
    refine sl_nil ?_
    refine sp_then ?_
    refine sw_seq ?_
    refine sw_cond rfl (fun h => ?_) (fun h => ?_)
    · have h := of_decide_eq_true h
      have hn' : n < 4 := by omega
      refine sw_skip ?_
      refine sp_then ?_
      refine sw_seq ?_
      refine sw_block ?_
      refine sw_seq ?_
      refine sw_region ?_
      refine r_index (i := n) (v := vb (S.th n)) (by exact ta rfl) (by exact tz rfl) (by exact rfl) (by exact rfl) (by omega) (by omega) (Int.toNat_natCast n) (S.tc_get n hn') (by exact rfl) ?_
      refine r_assign (k := ?_)
      refine sl_nil ?_
      refine sp_then ?_
      refine sw_seq ?_
      refine sw_region ?_
      refine r_move (k := ?_)
      refine r_not (k := ?_)
      refine sl_nil ?_
      refine sp_then ?_
      cases hth : S.th n
      · have e : doubtN S.th (n + 1) = doubtN S.th n + 1 := by rw [doubtN, hth]; rfl
        refine w_re (t := 62) (v' := vb true) rfl rfl ?_
        refine swd_t (h := ?_)
        refine sw_region ?_
        refine r_move (k := ?_)
        refine r_add64 (k := ?_)
        refine r_assign (k := ?_)
        refine sl_nil ?_
        refine sp_block ?_
        refine sp_then ?_
        refine sw_region ?_
        refine r_add64 (k := ?_)
        refine r_move (k := ?_)
        refine sl_nil ?_
        refine sp_re (t := 3) (v' := vi (doubtN S.th (n + 1) : Nat)) rfl (by rw [e]; rfl) ?_
        refine sp_loop (ι := { n : Nat // n ≤ 4 }) ⟨n + 1, by omega⟩ ?_ ?_
        · dsimp only; omega
        · exact Ent.mk' (by repeat' (first | trivial | exact rfl | apply And.intro)) (by repeat' (first | trivial | exact .head _ | apply And.intro | apply List.Mem.tail))
      · have e : doubtN S.th (n + 1) = doubtN S.th n := by rw [doubtN, hth]; rfl
        refine w_re (t := 62) (v' := vb false) rfl rfl ?_
        refine swd_f (h := ?_)
        refine sw_skip ?_
        refine sp_block ?_
        refine sp_then ?_
        refine sw_region ?_
        refine r_add64 (k := ?_)
        refine r_move (k := ?_)
        refine sl_nil ?_
        refine sp_re (t := 3) (v' := vi (doubtN S.th (n + 1) : Nat)) rfl (by rw [e]) ?_
        refine sp_loop (ι := { n : Nat // n ≤ 4 }) ⟨n + 1, by omega⟩ ?_ ?_
        · dsimp only; omega
        · exact Ent.mk' (by repeat' (first | trivial | exact rfl | apply And.intro)) (by repeat' (first | trivial | exact .head _ | apply And.intro | apply List.Mem.tail))
    have h := of_decide_eq_false h
    obtain rfl : n = 4 := by omega
    refine sw_exit ?_
    refine sp_then_exit ?_
    refine sp_loop_exit ?_
    refine sp_block_exit ?_
    refine sp_then ?_
    refine sw_seq ?_
    refine sw_seq ?_
    refine sw_thenE (fun b : Nat × Nat => [(1, .pointer (some ⟨b1, 0, none⟩)), (2, .pointer (some ⟨b2, 0, none⟩)), (3, vi (doubtN S.th 4 : Nat)), (4, vi 0), (12, .pointer (some ⟨b.1, 0, none⟩)), (13, .pointer (some ⟨b.2, 0, none⟩))])
      (fun b => [.box b.1 S.l0.cs 32, .box b.2 S.l1.cs 32, .mark mk, .box b7 S.tc 49, .box b6 S.lc 107, .box b5 (ancsV A) 73, .box b2 S.a.cs 32, .box b1 p.cs 63]) (fun _ => [S.a.mark.key.res, BS.nil.res]) [] ?_ fun b => ?_
    · 
      refine sw_draw [(none, .box b6 S.lc 107)] [] [0, 1, 2, 3, 4, 5, 6, 7] mix (by kernel_rfl) rfl ?_
      refine ra_first 0 [] [1, 2, 3, 4, 5, 6, 7] (hq := by exact q_idx_arr (i := 0) (m := 0) (by exact ta rfl) (by exact rfl) (by exact rfl) (by decide) (by decide) rfl) (k := ?_)
      refine ra_first 1 [(none, .box b6 S.lc 107)] [2, 3, 4, 5, 6, 7] (hq := by exact q_load_agg (vs := S.l0.cs) (by exact tz rfl) (by exact rfl) (.head _) rfl rfl) (k := ?_)
      refine ra_first 2 [] [3, 4, 5, 6, 7] (hq := by exact q_idx_arr (i := 1) (m := 1) (by exact ta rfl) (by exact rfl) (by exact rfl) (by decide) (by decide) rfl) (k := ?_)
      refine ra_first 3 [(none, .box b6 S.lc 107)] [4, 5, 6, 7] (hq := by exact q_load_agg (vs := S.l1.cs) (by exact tz rfl) (by exact rfl) (.head _) rfl rfl) (k := ?_)
      refine ra2 (i := 4) (j := 5) [5, 6, 7] [4, 6, 7] (by kernel_rfl) rfl rfl rfl rfl ?_ ?_
      · 
        refine r_alloc (by exact z32) (cs := zeroA.cs) (by kernel_rfl) (by exact rfl) fun b12 => ?_
        refine sl_nil ?_
        refine sp_nx (k := ?_)
        refine ra1 (i := 5) [6, 7] (h := ?_)
        refine r_alloc (by exact z32) (cs := zeroA.cs) (by kernel_rfl) (by exact rfl) fun b13 => ?_
        refine sl_nil ?_
        refine sp_nx (k := ?_)
        refine ra1 (i := 6) [7] (h := ?_)
        refine r_store_all (k := ?_)
        refine sl_nil ?_
        refine sp_nx (k := ?_)
        refine ra1 (i := 7) [] (h := ?_)
        refine r_store_all (k := ?_)
        refine sl_nil ?_
        refine sp_nx (k := ?_)
        refine ra_done ?_
        refine sp_pull 1 rfl ?_
        exact sp_cutE (b12, b13) (by repeat' (first | trivial | exact rfl | apply And.intro)) (by repeat' (first | trivial | exact .head _ | apply And.intro | apply List.Mem.tail)) rfl
      · 
        refine r_alloc (by exact z32) (cs := zeroA.cs) (by kernel_rfl) (by exact rfl) fun b13 => ?_
        refine sl_nil ?_
        refine sp_nx (k := ?_)
        refine ra1 (i := 4) [6, 7] (h := ?_)
        refine r_alloc (by exact z32) (cs := zeroA.cs) (by kernel_rfl) (by exact rfl) fun b12 => ?_
        refine sl_nil ?_
        refine sp_nx (k := ?_)
        refine ra1 (i := 6) [7] (h := ?_)
        refine r_store_all (k := ?_)
        refine sl_nil ?_
        refine sp_nx (k := ?_)
        refine ra1 (i := 7) [] (h := ?_)
        refine r_store_all (k := ?_)
        refine sl_nil ?_
        refine sp_nx (k := ?_)
        refine ra_done ?_
        exact sp_cutE (b12, b13) (by repeat' (first | trivial | exact rfl | apply And.intro)) (by repeat' (first | trivial | exact .head _ | apply And.intro | apply List.Mem.tail)) rfl
    obtain ⟨b12, b13⟩ := b
    dsimp only
    obtain ⟨e, ee⟩ : ∃ e, e = newE (liveN p) S := ⟨_, rfl⟩
    refine sw_then [(1, .pointer (some ⟨b1, 0, none⟩)), (2, .pointer (some ⟨b2, 0, none⟩)), (3, vi (doubtN S.th 4 : Nat)), (4, vi e)] [.box b12 S.l0.cs 32, .box b13 S.l1.cs 32, .mark mk, .box b7 S.tc 49, .box b6 S.lc 107, .box b5 (ancsV A) 73, .box b2 S.a.cs 32, .box b1 p.cs 63] [S.a.mark.key.res, BS.nil.res] [] ?_ ?_
    · have fin : ∀ e' : Int, newE (liveN p) S = e' → vi e' = vi e := fun e' h => by rw [ee, h]
      refine sw_block ?_
      refine sw_seq ?_
      refine sw_region ?_
      refine r_load_all (k := ?_)
      refine r_call1 (c_live GW p) (by exact rfl) (by exact rfl) (by exact rfl) (by simp) (by exact rfl) ?_
      refine r_eql (k := ?_)
      refine r_assign (k := ?_)
      refine sl_nil ?_
      refine sp_then ?_
      by_cases hlv : (liveN p).toNat = 0
      · refine w_re (t := 70) (v' := vb true) rfl (by simp [hlv]) ?_
        refine swd_t (h := ?_)
        refine sw_region ?_
        refine r_assign (k := ?_)
        refine sl_nil ?_
        refine sp_block ?_
        refine sp_re (t := 4) (v' := vi e) rfl (fin 30 (by unfold newE; rw [if_pos hlv])) ?_
        exact sp_cut (by repeat' (first | trivial | exact rfl | apply And.intro)) (by repeat' (first | trivial | exact .head _ | apply And.intro | apply List.Mem.tail))
      refine w_re (t := 70) (v' := vb false) rfl (by simp [hlv]) ?_
      refine swd_f (h := ?_)
      refine sw_seq ?_
      refine sw_region ?_
      refine r_fieldAddr (k := ?_)
      refine r_load_one (k := ?_)
      refine r_eql (k := ?_)
      refine r_move (k := ?_)
      have step2 : ¬ (S.l0.tx.toNat = 0 ∧ S.l1.tx.toNat = 0) → newE (liveN p) S = if S.a.tx.toNat = 0 ∨ (0 < S.l0.tx.toNat ∧ 0 < S.l1.tx.toNat ∧ hasL S.l0.live true = false ∧ hasL S.l1.live false = false) then 121 else 0 := fun h => by
        unfold newE; rw [if_neg hlv, if_neg h]
      have tail : ∀ (ρ : List (Nat × Value)), True := fun _ => trivial
      by_cases z0 : S.l0.tx.toNat = 0
      · refine r_re (t := 78) (v' := vb true) rfl (by simp [z0]) ?_
        refine gd_yes (k := ?_)
        refine r_fieldAddr (k := ?_)
        refine gd_yes (k := ?_)
        refine r_load_one (k := ?_)
        refine gd_yes (k := ?_)
        refine r_eql (k := ?_)
        refine rd_pick_t (k := ?_)
        refine r_assign (k := ?_)
        refine sl_nil ?_
        refine sp_then ?_
        by_cases z1 : S.l1.tx.toNat = 0
        · refine w_re (t := 74) (v' := vb true) rfl (by simp [z1]) ?_
          refine swd_t (h := ?_)
          refine sw_region ?_
          refine r_assign (k := ?_)
          refine sl_nil ?_
          refine sp_block ?_
          refine sp_re (t := 4) (v' := vi e) rfl (fin 120 (by unfold newE; rw [if_neg hlv, if_pos ⟨z0, z1⟩])) ?_
          exact sp_cut (by repeat' (first | trivial | exact rfl | apply And.intro)) (by repeat' (first | trivial | exact .head _ | apply And.intro | apply List.Mem.tail))
        refine w_re (t := 74) (v' := vb false) rfl (by simp [z1]) ?_
        refine swd_f (h := ?_)
        refine sw_seq ?_
        refine sw_region ?_
        refine r_fieldAddr (k := ?_)
        refine r_load_one (k := ?_)
        refine r_eql (k := ?_)
        refine r_move (k := ?_)
        by_cases za : S.a.tx.toNat = 0
        · refine r_re (t := 87) (v' := vb true) rfl (by simp [za]) ?_
          refine gd_no (k := ?_)
          refine gd_no (k := ?_)
          refine gd_no (k := ?_)
          refine gd_no (k := ?_)
          refine gd_un (k := ?_)
          refine gd_un (k := ?_)
          refine gd_un (k := ?_)
          refine gd_no (k := ?_)
          refine gd_no (k := ?_)
          refine gd_un (k := ?_)
          refine gd_un (k := ?_)
          refine gd_un (k := ?_)
          refine gd_no (k := ?_)
          refine gd_no (k := ?_)
          refine gd_un (k := ?_)
          refine gd_un (k := ?_)
          refine gd_un (k := ?_)
          refine gd_no (k := ?_)
          refine rd_pick_t (k := ?_)
          refine r_assign (k := ?_)
          refine sl_nil ?_
          refine sp_then ?_
          refine swd_t (h := ?_)
          refine sw_region ?_
          refine r_assign (k := ?_)
          refine sl_nil ?_
          refine sp_block ?_
          refine sp_re (t := 4) (v' := vi e) rfl (fin 121 (by rw [step2 fun h => z1 h.2, if_pos (.inl za)])) ?_
          exact sp_cut (by repeat' (first | trivial | exact rfl | apply And.intro)) (by repeat' (first | trivial | exact .head _ | apply And.intro | apply List.Mem.tail))
        refine r_re (t := 87) (v' := vb false) rfl (by simp [za]) ?_
        refine gd_yes (k := ?_)
        refine r_fieldAddr (k := ?_)
        refine gd_yes (k := ?_)
        refine r_load_one (k := ?_)
        refine gd_yes (k := ?_)
        refine r_gtr (k := ?_)
        refine gd_yes (k := ?_)
        refine r_move (k := ?_)
        refine r_re (t := 91) (v' := vb false) rfl (by simp [z0]) ?_
        refine gd_no (k := ?_)
        refine gd_no (k := ?_)
        refine gd_no (k := ?_)
        refine gd_yes (k := ?_)
        refine rd_pick_f (k := ?_)
        refine gd_yes (k := ?_)
        refine r_move (k := ?_)
        refine gd_no (k := ?_)
        refine gd_no (k := ?_)
        refine gd_no (k := ?_)
        refine gd_yes (k := ?_)
        refine rd_pick_f (k := ?_)
        refine gd_yes (k := ?_)
        refine r_move (k := ?_)
        refine gd_no (k := ?_)
        refine gd_no (k := ?_)
        refine gd_no (k := ?_)
        refine gd_yes (k := ?_)
        refine rd_pick_f (k := ?_)
        refine rd_pick_f (k := ?_)
        refine r_assign (k := ?_)
        refine sl_nil ?_
        refine sp_then ?_
        refine swd_f (h := ?_)
        refine sw_skip ?_
        refine sp_block ?_
        refine sp_re (t := 4) (v' := vi e) rfl (fin 0 (by rw [step2 fun h => z1 h.2, if_neg (by rintro (h | h); exact za h; omega)])) ?_
        exact sp_cut (by repeat' (first | trivial | exact rfl | apply And.intro)) (by repeat' (first | trivial | exact .head _ | apply And.intro | apply List.Mem.tail))
      refine r_re (t := 78) (v' := vb false) rfl (by simp [z0]) ?_
      refine gd_no (k := ?_)
      refine gd_no (k := ?_)
      refine gd_no (k := ?_)
      refine rd_pick_f (k := ?_)
      refine r_assign (k := ?_)
      refine sl_nil ?_
      refine sp_then ?_
      refine swd_f (h := ?_)
      refine sw_seq ?_
      refine sw_region ?_
      refine r_fieldAddr (k := ?_)
      refine r_load_one (k := ?_)
      refine r_eql (k := ?_)
      refine r_move (k := ?_)
      by_cases za : S.a.tx.toNat = 0
      · refine r_re (t := 87) (v' := vb true) rfl (by simp [za]) ?_
        refine gd_no (k := ?_)
        refine gd_no (k := ?_)
        refine gd_no (k := ?_)
        refine gd_no (k := ?_)
        refine gd_un (k := ?_)
        refine gd_un (k := ?_)
        refine gd_un (k := ?_)
        refine gd_no (k := ?_)
        refine gd_no (k := ?_)
        refine gd_un (k := ?_)
        refine gd_un (k := ?_)
        refine gd_un (k := ?_)
        refine gd_no (k := ?_)
        refine gd_no (k := ?_)
        refine gd_un (k := ?_)
        refine gd_un (k := ?_)
        refine gd_un (k := ?_)
        refine gd_no (k := ?_)
        refine rd_pick_t (k := ?_)
        refine r_assign (k := ?_)
        refine sl_nil ?_
        refine sp_then ?_
        refine swd_t (h := ?_)
        refine sw_region ?_
        refine r_assign (k := ?_)
        refine sl_nil ?_
        refine sp_block ?_
        refine sp_re (t := 4) (v' := vi e) rfl (fin 121 (by rw [step2 fun h => z0 h.1, if_pos (.inl za)])) ?_
        exact sp_cut (by repeat' (first | trivial | exact rfl | apply And.intro)) (by repeat' (first | trivial | exact .head _ | apply And.intro | apply List.Mem.tail))
      refine r_re (t := 87) (v' := vb false) rfl (by simp [za]) ?_
      refine gd_yes (k := ?_)
      refine r_fieldAddr (k := ?_)
      refine gd_yes (k := ?_)
      refine r_load_one (k := ?_)
      refine gd_yes (k := ?_)
      refine r_gtr (k := ?_)
      refine gd_yes (k := ?_)
      refine r_move (k := ?_)
      refine r_re (t := 91) (v' := vb true) rfl (by simp; omega) ?_
      refine gd_yes (k := ?_)
      refine r_fieldAddr (k := ?_)
      refine gd_yes (k := ?_)
      refine r_load_one (k := ?_)
      refine gd_yes (k := ?_)
      refine r_gtr (k := ?_)
      refine gd_yes (k := ?_)
      refine rd_pick_t (k := ?_)
      refine gd_yes (k := ?_)
      refine r_move (k := ?_)
      by_cases z1 : S.l1.tx.toNat = 0
      · refine r_re (t := 96) (v' := vb false) rfl (by simp [z1]) ?_
        refine gd_no (k := ?_)
        refine gd_no (k := ?_)
        refine gd_no (k := ?_)
        refine gd_yes (k := ?_)
        refine rd_pick_f (k := ?_)
        refine gd_yes (k := ?_)
        refine r_move (k := ?_)
        refine gd_no (k := ?_)
        refine gd_no (k := ?_)
        refine gd_no (k := ?_)
        refine gd_yes (k := ?_)
        refine rd_pick_f (k := ?_)
        refine rd_pick_f (k := ?_)
        refine r_assign (k := ?_)
        refine sl_nil ?_
        refine sp_then ?_
        refine swd_f (h := ?_)
        refine sw_skip ?_
        refine sp_block ?_
        refine sp_re (t := 4) (v' := vi e) rfl (fin 0 (by rw [step2 fun h => z0 h.1, if_neg (by rintro (h | h); exact za h; omega)])) ?_
        exact sp_cut (by repeat' (first | trivial | exact rfl | apply And.intro)) (by repeat' (first | trivial | exact .head _ | apply And.intro | apply List.Mem.tail))
      refine r_re (t := 96) (v' := vb true) rfl (by simp; omega) ?_
      refine gd_yes (k := ?_)
      refine r_load_all (k := ?_)
      refine gd_yes (k := ?_)
      refine r_call1 (c_has GW S.l0 true) (by exact rfl) (by exact rfl) (by exact rfl) (by simp) (by exact rfl) ?_
      refine gd_yes (k := ?_)
      refine r_not (k := ?_)
      refine gd_yes (k := ?_)
      refine rd_pick_t (k := ?_)
      refine gd_yes (k := ?_)
      refine r_move (k := ?_)
      cases g0 : hasL S.l0.live true
      · refine r_re (t := 101) (v' := vb true) rfl rfl ?_
        refine gd_yes (k := ?_)
        refine r_load_all (k := ?_)
        refine gd_yes (k := ?_)
        refine r_call1 (c_has GW S.l1 false) (by exact rfl) (by exact rfl) (by exact rfl) (by simp) (by exact rfl) ?_
        refine gd_yes (k := ?_)
        refine r_not (k := ?_)
        refine gd_yes (k := ?_)
        refine rd_pick_t (k := ?_)
        refine rd_pick_f (k := ?_)
        refine r_assign (k := ?_)
        refine sl_nil ?_
        refine sp_then ?_
        cases g1 : hasL S.l1.live false
        · refine w_re (t := 83) (v' := vb true) rfl rfl ?_
          refine swd_t (h := ?_)
          refine sw_region ?_
          refine r_assign (k := ?_)
          refine sl_nil ?_
          refine sp_block ?_
          refine sp_re (t := 4) (v' := vi e) rfl (fin 121 (by rw [step2 fun h => z0 h.1, if_pos (.inr ⟨by omega, by omega, g0, g1⟩)])) ?_
          exact sp_cut (by repeat' (first | trivial | exact rfl | apply And.intro)) (by repeat' (first | trivial | exact .head _ | apply And.intro | apply List.Mem.tail))
        · refine w_re (t := 83) (v' := vb false) rfl rfl ?_
          refine swd_f (h := ?_)
          refine sw_skip ?_
          refine sp_block ?_
          refine sp_re (t := 4) (v' := vi e) rfl (fin 0 (by rw [step2 fun h => z0 h.1, if_neg (by rintro (h | h); exact za h; rw [g1] at h; cases h.2.2.2)])) ?_
          exact sp_cut (by repeat' (first | trivial | exact rfl | apply And.intro)) (by repeat' (first | trivial | exact .head _ | apply And.intro | apply List.Mem.tail))
      · refine r_re (t := 101) (v' := vb false) rfl rfl ?_
        refine gd_no (k := ?_)
        refine gd_no (k := ?_)
        refine gd_no (k := ?_)
        refine gd_yes (k := ?_)
        refine rd_pick_f (k := ?_)
        refine rd_pick_f (k := ?_)
        refine r_assign (k := ?_)
        refine sl_nil ?_
        refine sp_then ?_
        refine swd_f (h := ?_)
        refine sw_skip ?_
        refine sp_block ?_
        refine sp_re (t := 4) (v' := vi e) rfl (fin 0 (by rw [step2 fun h => z0 h.1, if_neg (by rintro (h | h); exact za h; rw [g0] at h; cases h.2.2.1)])) ?_
        exact sp_cut (by repeat' (first | trivial | exact rfl | apply And.intro)) (by repeat' (first | trivial | exact .head _ | apply And.intro | apply List.Mem.tail))
    refine sw_seq ?_
    refine sw_seq ?_
    refine sw_region ?_
    refine r_move (k := ?_)
    refine r_neq (k := ?_)
    refine sl_nil ?_
    refine sp_then ?_
    by_cases he : e = 0
    · refine w_re (t := 108) (v' := vb false) rfl (by simp [he]) ?_
      refine swd_f (h := ?_)
      refine sw_skip ?_
      refine sp_then ?_
      refine sw_seq ?_
      refine sw_region ?_
      refine r_load_all (k := ?_)
      refine r_move (k := ?_)
      refine r_move (k := ?_)
      refine r_store_all (k := ?_)
      refine r_assign (k := ?_)
      refine r_assign (k := ?_)
      refine sl_nil ?_
      refine sp_then ?_
      refine sw_ret ?_
      refine sp_ret3 rfl rfl (.agg rfl (tz rfl) rfl (.tail _ (.tail _ (.tail _ (.tail _ (.tail _ (.tail _ (.head _)))))))) (.tmp rfl) (.tmp rfl) rfl rfl ⟨rfl, A, S.a, by rw [← eS, ← ee]; rfl, hA, hSok, fun _ => by rw [← eS], rfl⟩ (List.nil_sublist _) rfl (by simp)
    · refine w_re (t := 108) (v' := vb true) rfl (by simp [he]) ?_
      refine swd_t (h := ?_)
      refine sw_seq ?_
      refine sw_region ?_
      refine r_buildP zeroA.cs (parts := []) (by exact rfl) (by kernel_rfl) (by exact rfl) ?_
      refine r_move (k := ?_)
      refine r_move (k := ?_)
      refine r_store_all (k := ?_)
      refine r_assign (k := ?_)
      refine r_assign (k := ?_)
      refine sl_nil ?_
      refine sp_then ?_
      refine sw_ret ?_
      refine sp_then_ret ?_
      refine sp_ret3 rfl rfl (.agg rfl (tz rfl) rfl (.tail _ (.tail _ (.tail _ (.tail _ (.tail _ (.tail _ (.head _)))))))) (.tmp rfl) (.tmp rfl) rfl rfl ⟨rfl, A, zeroA, by rw [← eS, ← ee]; rfl, hA, ⟨Nat.le_refl _, Nat.zero_le _⟩, fun h => absurd (by rw [ee, eS]; exact h) he, rfl⟩ (List.nil_sublist _) rfl (fun φ h => by rw [List.mem_singleton.1 h]; exact .tail _ (.head _))
end Go.Proofs.YtjahiohlekdhoaaDoor

namespace Go.Proofs.YtjahiohlekdhoaaDoor
open Go

theorem read_write (d : DiskP) (n m : Nat) (p : List UInt8) : (d.write (n : Int) p).read m = if n = m then (p, 0) else d.read m := by
  unfold DiskP.read DiskP.write
  simp only [List.reverse_append, List.reverse_cons, List.reverse_nil, List.nil_append, List.singleton_append, lastsOf]
  by_cases h : n = m
  · subst h; simp
  · rw [if_neg (by omega), if_neg h]
theorem slot_write (d : DiskP) (n m : Nat) (p : List UInt8) (h : ¬ n = m) : (d.write (n : Int) p).slot m = d.slot m := by
  unfold DiskP.slot
  rw [read_write, if_neg h]
  rfl
theorem slot_put (d : DiskP) (ho : d.off = false) (a : AncV) (hr : a.right = true) (hs : a.size.toNat = d.pages.length) (m : Nat) :
    (d.put a true).slot m = if m = (a.tx % 4).toNat then a.pure else d.slot m := by
  have he : encV a = (a.page, 0) := by unfold encV; rw [if_pos hr]
  unfold DiskP.put
  rw [he, if_pos ⟨rfl, ho, rfl⟩]
  by_cases h : m = (a.tx % 4).toNat
  · subst h
    rw [if_pos rfl]
    unfold DiskP.slot
    rw [read_write, if_pos rfl, page_decP a hr, if_neg (by show ¬ d.off = true; rw [ho]; decide), if_pos rfl, if_pos ⟨rfl, by simp only [fitsS, Bool.and_eq_true, decide_eq_true_eq]; exact ⟨rfl, hs⟩⟩]
  · rw [if_neg h, slot_write _ _ _ _ fun e => h e.symm]

/-- A disk whose slots are known. -/
structure DiskP.holds (d : DiskP) (n i : Nat) (T : Nat → AncP) : Prop where
  fine : d.fine
  off : d.off = false
  bad : d.bad = []
  len : d.pages.length = n
  cache : d.cache.length ≤ i
  slot : ∀ m, m < 4 → d.slot m = T m
theorem zeros_dec : decP (List.replicate 256 0) = (AncP.zero, 50) := decV_zero
theorem holds_fresh {n : Nat} (h0 : 32 ≤ n) (h1 : n ≤ 64) : (DiskP.fresh n).holds n 0 fun _ => AncP.zero := by
  refine ⟨fresh_fine h0 h1, rfl, rfl, List.length_replicate, Nat.le_refl 0, fun m hm => ?_⟩
  have hr : (DiskP.fresh n).read m = (List.replicate 256 0, 0) := by
    show ((List.replicate n (List.replicate 256 (0 : UInt8))).getD m [], (0 : Int)) = _
    rw [List.getD_eq_getElem?_getD, List.getElem?_replicate, if_pos (show m < n by omega)]
    rfl
  unfold DiskP.slot
  rw [hr, zeros_dec, if_neg (by show ¬ false = true; decide), if_pos rfl, if_neg (fun h => absurd h.1 (by decide))]
theorem holds_put {d : DiskP} {n i : Nat} {T : Nat → AncP} (h : d.holds n i T) (hi : i < 1000) (a : AncV) (hr : a.right = true) (hs : a.size.toNat = n) :
    (d.put a true).holds n (i + 1) fun m => if m = (a.tx % 4).toNat then a.pure else T m := by
  have hsl := slot_put d h.off a hr (hs.trans h.len.symm)
  have he : encV a = (a.page, 0) := by unfold encV; rw [if_pos hr]
  have hp : d.put a true = d.write (((a.tx % 4).toNat : Nat) : Int) a.page := by unfold DiskP.put; rw [he, if_pos ⟨rfl, h.off, rfl⟩]
  have h4 : (a.tx % 4).toNat < 4 := by rw [UInt32.toNat_mod]; exact Nat.mod_lt _ (by decide)
  have hc := h.cache
  have h32 := h.fine.n0
  refine ⟨?_, ?_, ?_, ?_, ?_, fun m hm => ?_⟩
  · rw [hp]; exact write_fine h.fine h.off (by omega) (by omega) (by omega) (page_len a)
  · rw [hp]; exact h.off
  · rw [hp]; exact h.bad
  · rw [hp]; exact h.len
  · rw [hp]; simp [DiskP.write]; omega
  · rw [hsl m, h.slot m hm]

theorem eight {α : Type} {l : List α} (h : l.length = 8) : ∃ a b c d e f g i, l = [a, b, c, d, e, f, g, i] := by
  match l, h with
  | [a, b, c, d, e, f, g, i], _ => exact ⟨a, b, c, d, e, f, g, i, rfl⟩
theorem at_pure {A : List AncV} {s0 s1 : Nat → AncP} (hA : A.map AncV.pure = (List.range 4).map s0 ++ (List.range 4).map s1) (b : Bool) {n : Nat} (hn : n < 4) : (atA A b n).pure = bif b then s1 n else s0 n := by
  obtain ⟨a0, a1, a2, a3, a4, a5, a6, a7, rfl⟩ := eight (l := A) (by have := congrArg List.length hA; simpa using this)
  have e : [a0.pure, a1.pure, a2.pure, a3.pure, a4.pure, a5.pure, a6.pure, a7.pure] = [s0 0, s0 1, s0 2, s0 3, s1 0, s1 1, s1 2, s1 3] := hA
  simp only [List.cons.injEq, and_true] at e
  obtain ⟨e0, e1, e2, e3, e4, e5, e6, e7⟩ := e
  obtain rfl | rfl | rfl | rfl : n = 0 ∨ n = 1 ∨ n = 2 ∨ n = 3 := by omega
  · cases b
    · exact e0
    · exact e4
  · cases b
    · exact e1
    · exact e5
  · cases b
    · exact e2
    · exact e6
  · cases b
    · exact e3
    · exact e7

/-- Slots that are the same on both disks, by numbers. -/
def Sym (A : List AncV) (L : Nat → Nat) : Prop := ∀ b n, n < 4 → (atA A b n).tx.toNat = L n ∧ (¬ L n = 0 → (atA A b n).live = 3)
theorem has3 (k : Bool) : hasL 3 k = true := by cases k <;> decide
theorem void_sym {A : List AncV} {L : Nat → Nat} (hA : A.length = 8) (h : Sym A L) (b : Bool) (n : Nat) : voidA A b n = false := by
  obtain ⟨a0, a1, a2, a3, a4, a5, a6, a7, rfl⟩ := eight hA
  have key : ∀ (x y : AncV) (j : Nat), (y.tx.toNat = L j ∧ (¬ L j = 0 → y.live = 3)) → voidBy x y b = false := fun x y j hy => by
    by_cases h0 : L j = 0
    · simp [voidBy, hy.1, h0]
    · simp [voidBy, hy.2 h0, has3]
  have hany : ((([a0, a1, a2, a3, a4, a5, a6, a7] : List AncV).drop (bN (!b) * 4)).take 4).any (fun y => voidBy (([a0, a1, a2, a3, a4, a5, a6, a7] : List AncV).getD (bN b * 4 + n) zeroA) y b) = false := by
    cases b
    · simp [bN, key _ a4 0 (h true 0 (by decide)), key _ a5 1 (h true 1 (by decide)), key _ a6 2 (h true 2 (by decide)), key _ a7 3 (h true 3 (by decide))]
    · simp [bN, key _ a0 0 (h false 0 (by decide)), key _ a1 1 (h false 1 (by decide)), key _ a2 2 (h false 2 (by decide)), key _ a3 3 (h false 3 (by decide))]
  unfold voidA
  rw [hany, Bool.and_false]
theorem up_l (s : NSt) (b b' : Bool) (y : AncV) : ((s.up b y).l b').tx.toNat = if b = b' then max (s.l b').tx.toNat y.tx.toNat else (s.l b').tx.toNat := by
  unfold NSt.up
  split
  · cases b <;> cases b' <;> simp_all [NSt.setL, NSt.l] <;> omega
  · by_cases e : b = b'
    · subst e; rw [if_pos rfl]; omega
    · rw [if_neg e]
theorem up_th (s : NSt) (b : Bool) (y : AncV) : (s.up b y).th = s.th := by
  unfold NSt.up; split
  · cases b <;> rfl
  · rfl
theorem see_l (s : NSt) (k : Nat) (y : AncV) (v b : Bool) : (s.see k y v).l b = s.l b := by
  unfold NSt.see; split
  · rfl
  · split <;> rfl
theorem see_a (s : NSt) (k : Nat) (y : AncV) : (s.see k y false).a.tx.toNat = max s.a.tx.toNat y.tx.toNat := by
  unfold NSt.see; split
  · rename_i h; rcases h with h | h
    · rw [h]; omega
    · cases h
  · split <;> (dsimp only; omega)
theorem see_th (s : NSt) (k : Nat) (y : AncV) (j : Nat) : (s.see k y false).th j = if j = k ∧ ¬ y.tx.toNat = 0 then true else s.th j := by
  unfold NSt.see; split
  · rename_i h; rcases h with h | h
    · rw [if_neg fun q => q.2 h]
    · cases h
  · rename_i h
    have h0 : ¬ y.tx.toNat = 0 := fun e => h (.inl e)
    split <;> simp [h0]
/-- What is known of the numbers alone. -/
structure Nums (s : NSt) (n0 n1 na : Nat) (th : Nat → Bool) : Prop where
  l0 : s.l0.tx.toNat = n0
  l1 : s.l1.tx.toNat = n1
  a : s.a.tx.toNat = na
  th : s.th = th
  v : ∀ b, ¬ (s.l b).tx.toNat = 0 → (s.l b).live = 3
theorem up_v (s : NSt) (b b' : Bool) (y : AncV) : (s.up b y).l b' = s.l b' ∨ (s.up b y).l b' = y := by
  unfold NSt.up
  split
  · cases b <;> cases b' <;> simp [NSt.setL, NSt.l]
  · exact .inl rfl
theorem nums_step {A : List AncV} {L : Nat → Nat} (hA : A.length = 8) (h : Sym A L) {s : NSt} {n0 n1 na : Nat} {th : Nat → Bool} (hs : Nums s n0 n1 na th) (b : Bool) (k : Nat) (hk : k < 4) :
    Nums (NSt.step A s (bN b, k)) (bif b then n0 else max n0 (L k)) (bif b then max n1 (L k) else n1) (max na (L k)) (fun j => if j = k ∧ ¬ L k = 0 then true else th j) := by
  have e : NSt.step A s (bN b, k) = (s.up b (atA A b k)).see k (atA A b k) false := by
    unfold NSt.step; rw [show decide ((bN b, k).1 = 1) = b by cases b <;> rfl, void_sym hA h]
  have ht := (h b k hk).1
  rw [e]
  refine ⟨?_, ?_, ?_, ?_, fun b' h0 => ?_⟩
  rotate_left 4
  · rw [see_l] at h0 ⊢
    rcases up_v s b b' (atA A b k) with e | e
    · rw [e] at h0 ⊢; exact hs.v b' h0
    · rw [e] at h0 ⊢; exact (h b k hk).2 (fun q => h0 (ht.trans q))
  · have := up_l s b false (atA A b k)
    rw [show ((s.up b (atA A b k)).see k (atA A b k) false).l0 = ((s.up b (atA A b k)).see k (atA A b k) false).l false from rfl, see_l, this, ht]
    cases b <;> simp [NSt.l, hs.l0]
  · have := up_l s b true (atA A b k)
    rw [show ((s.up b (atA A b k)).see k (atA A b k) false).l1 = ((s.up b (atA A b k)).see k (atA A b k) false).l true from rfl, see_l, this, ht]
    cases b <;> simp [NSt.l, hs.l1]
  · rw [see_a, NSt.up_a, hs.a, ht]
  · funext j
    rw [see_th, up_th, hs.th, ht]
def maxL (L : Nat → Nat) : Nat := max (max (max (L 0) (L 1)) (L 2)) (L 3)
theorem nums_all {A : List AncV} {L : Nat → Nat} (hA : A.length = 8) (h : Sym A L) : Nums (NSt.all A) (maxL L) (maxL L) (maxL L) (fun j => decide (j < 4 ∧ ¬ L j = 0)) := by
  have h0 : Nums NSt.zero 0 0 0 (fun _ => false) := ⟨rfl, rfl, rfl, rfl, fun b h => absurd (by cases b <;> rfl) h⟩
  have h1 := nums_step hA h h0 false 0 (by decide)
  have h2 := nums_step hA h h1 true 0 (by decide)
  have h3 := nums_step hA h h2 false 1 (by decide)
  have h4 := nums_step hA h h3 true 1 (by decide)
  have h5 := nums_step hA h h4 false 2 (by decide)
  have h6 := nums_step hA h h5 true 2 (by decide)
  have h7 := nums_step hA h h6 false 3 (by decide)
  have h8 := nums_step hA h h7 true 3 (by decide)
  have e : NSt.all A = NSt.step A (NSt.step A (NSt.step A (NSt.step A (NSt.step A (NSt.step A (NSt.step A (NSt.step A NSt.zero (bN false, 0)) (bN true, 0)) (bN false, 1)) (bN true, 1)) (bN false, 2)) (bN true, 2)) (bN false, 3)) (bN true, 3) := rfl
  rw [e]
  obtain ⟨q0, q1, q2, q3, q4⟩ := h8
  refine ⟨q0.trans ?_, q1.trans ?_, q2.trans ?_, q3.trans ?_, q4⟩
  · simp [maxL]
  · simp [maxL]
  · simp only [maxL]; omega
  · funext j
    by_cases j0 : j = 0
    · subst j0; by_cases e : L 0 = 0 <;> simp [e]
    by_cases j1 : j = 1
    · subst j1; by_cases e : L 1 = 0 <;> simp [e]
    by_cases j2 : j = 2
    · subst j2; by_cases e : L 2 = 0 <;> simp [e]
    by_cases j3 : j = 3
    · subst j3; by_cases e : L 3 = 0 <;> simp [e]
    have : ¬ j < 4 := by omega
    simp [j0, j1, j2, j3, this]
theorem newE_sym {A : List AncV} {L : Nat → Nat} {live : UInt8} (hl : ¬ live.toNat = 0) (hA : A.length = 8) (h : Sym A L) : newE live (NSt.all A) = if maxL L = 0 then 120 else 0 := by
  have q := nums_all hA h
  unfold newE
  rw [if_neg hl, q.l0, q.l1, q.a]
  by_cases e : maxL L = 0
  · rw [if_pos ⟨e, e⟩, if_pos e]
  · rw [if_neg fun h => e h.1, if_neg e, if_neg]
    rintro (h' | ⟨_, _, h', _⟩)
    · exact e h'
    · have hv : (NSt.all A).l0.live = 3 := q.v false (by rw [show (NSt.all A).l false = (NSt.all A).l0 from rfl, q.l0]; exact e)
      rw [hv, has3] at h'
      cases h'
end Go.Proofs.YtjahiohlekdhoaaDoor

namespace Go.Proofs.YtjahiohlekdhoaaDoor
open Go
set_option maxHeartbeats 4000000
set_option maxRecDepth 4000
attribute [local irreducible] SW SL SP RA Then FQ IQ LoopQ RQ AQ NX CutQ Exit.noGoto
attribute [local irreducible] CutE

/-- A pair whose disks are attached, and have the same slots. -/
structure PairV.holds (p : PairV) (n i : Nat) (T : Nat → AncP) : Prop where
  o0 : p.d0.ok
  o1 : p.d1.ok
  h0 : p.d0.pure.holds n i T
  h1 : p.d1.pure.holds n i T
theorem PairV.holds.live {p : PairV} {n i : Nat} {T : Nat → AncP} (h : p.holds n i T) : liveN p = 3 := by
  unfold liveN
  rw [show p.d0.off = false from h.h0.off, show p.d1.off = false from h.h1.off]; rfl
theorem PairV.holds.put {p s : PairV} {n i : Nat} {T : Nat → AncP} (h : p.holds n i T) (hi : i < 1000) (a : AncV) (hr : a.right = true) (hs : a.size.toNat = n) (q : PutI p a yes 2 s) : s.holds n (i + 1) fun m => if m = (a.tx % 4).toNat then a.pure else T m := by
  have e0 : s.d0.pure = p.d0.pure.put a true := q.e0
  have e1 : s.d1.pure = p.d1.pure.put a true := q.e1
  exact ⟨q.o0, q.o1, by rw [e0]; exact holds_put h.h0 hi a hr hs, by rw [e1]; exact holds_put h.h1 hi a hr hs⟩
/-- What slots tell of such a pair. -/
def anT (T : Nat → AncP) (L : Nat → Nat) : Prop := ∀ n, n < 4 → (T n).tx.toNat = L n ∧ (¬ L n = 0 → (T n).live = 3)
theorem PairV.holds.sym {p : PairV} {n i : Nat} {T : Nat → AncP} (h : p.holds n i T) {A : List AncV} (hA : A.map AncV.pure = (List.range 4).map p.d0.pure.slot ++ (List.range 4).map p.d1.pure.slot) {L : Nat → Nat} (hT : anT T L) : A.length = 8 ∧ Sym A L := by
  refine ⟨by have := congrArg List.length hA; simpa using this, fun b m hm => ?_⟩
  have e := at_pure hA b hm
  have e2 : (atA A b m).pure = T m := by
    cases b
    · exact e.trans (h.h0.slot m hm)
    · exact e.trans (h.h1.slot m hm)
  have e3 : (atA A b m).tx = (T m).tx := congrArg AncP.tx e2
  have e4 : (atA A b m).live = (T m).live := congrArg AncP.live e2
  rw [e3, e4]
  exact hT m hm
theorem plain_right (tx : UInt32) (n : Nat) (h0 : 32 ≤ n) (h1 : n ≤ 64) (ht0 : 1 ≤ tx.toNat) (ht1 : tx.toNat ≤ 1073741824) : (plainA tx (UInt16.ofNat n) 3 tx).right = true := by
  have hn : (UInt16.ofNat n).toNat = n := by simp; omega
  have hm : markedV ⟨0, 0, 0, BS.nil⟩ tx = true := by
    simp [markedV, BS.nil]
  unfold AncV.right
  rw [if_pos (show (plainA tx (UInt16.ofNat n) 3 tx).root = PtrV.none from rfl)]
  have e : ∀ q : Prop, [Decidable q] → q → decide q = true := fun q _ h => decide_eq_true h
  unfold AncV.fine
  rw [show (plainA tx (UInt16.ofNat n) 3 tx).mark = ⟨0, 0, 0, BS.nil⟩ from rfl, show (plainA tx (UInt16.ofNat n) 3 tx).tx = tx from rfl, show (plainA tx (UInt16.ofNat n) 3 tx).size = UInt16.ofNat n from rfl, show (plainA tx (UInt16.ofNat n) 3 tx).both = tx from rfl, show (plainA tx (UInt16.ofNat n) 3 tx).live = 3 from rfl, hm, hn]
  rw [e _ (show (1 : Int) ≤ (tx.toNat : Int) by omega), e _ (show (tx.toNat : Int) ≤ 1073741824 by omega), e _ (show (32 : Int) ≤ (n : Int) by omega), e _ (show (n : Int) ≤ 256 by omega), e _ (Int.le_refl (tx.toNat : Int))]
  rfl
theorem plain_size (tx : UInt32) (n : Nat) (h1 : n ≤ 64) : (plainA tx (UInt16.ofNat n) 3 tx).size.toNat = n := by
  show (UInt16.ofNat n).toNat = n
  simp; omega
def sixT : Nat → AncP := fun m => if m = ((6 : UInt32) % 4).toNat then (plainA 6 (UInt16.ofNat 32) 3 6).pure else AncP.zero

theorem c_wakes12 : Ctr Tryd.prog GW 30 [] [] [] (ret1 (vb true)) := by
  refine Ctr.intro Tryd.func30 (by kernel_rfl) rfl Tryd.ntmps30 rfl rfl rfl fun w' X => ?_
  refine sw_seq ?_
  refine sw_region ?_
  refine r_assign (k := ?_)
  refine sl_nil ?_
  refine sp_then ?_
  refine sw_seq ?_
  refine sw_region ?_
  refine f_have (φ := BS.nil.res) (fun V w _ i v hv => by simp [BS.nil, bv] at hv) ?_
  refine r_callF (c_pair GW 32 (by decide) (by decide)) (by exact rfl) (by exact rfl) (by exact rfl) (by simp) (by exact rfl) ?_
  rintro _ _ ⟨p, rfl, ⟨ho0, ho1⟩, hp0, hp1, rfl⟩
  have hp : p.holds 32 0 fun _ => AncP.zero := ⟨ho0, ho1, by rw [hp0]; exact holds_fresh (by decide) (by decide), by rw [hp1]; exact holds_fresh (by decide) (by decide)⟩
  refine r_alloc (by exact z63) (by exact rfl) (by exact rfl) fun b1 => ?_
  refine r_store_all (k := ?_)
  refine sl_nil ?_
  refine sp_then ?_
  refine sw_seq ?_
  refine sw_region ?_
  refine r_load_all (k := ?_)
  refine r_callF (c_newestR p ho0 ho1) (by exact rfl) (by exact rfl) (by exact rfl) (fun φ h => List.mem_append_left _ h) (by exact rfl) ?_
  rintro _ _ ⟨A, a, rfl, hA, hak, -, rfl⟩
  obtain ⟨hA8, hS⟩ := hp.sym hA (L := fun _ => 0) (fun n _ => ⟨rfl, fun h => absurd rfl h⟩)
  have e1 : newE (liveN p) (NSt.all A) = 120 := by rw [newE_sym (by rw [hp.live]; decide) hA8 hS]; rfl
  have e2 : doubtN (NSt.all A).th 4 = 4 := by rw [(nums_all hA8 hS).th]; rfl
  rw [e1, e2]
  refine r_move (k := ?_)
  refine r_ext (k := ?_)
  refine r_ext (k := ?_)
  refine r_ext (k := ?_)
  refine r_alloc (by exact z32) (cs := zeroA.cs) (by kernel_rfl) (by exact rfl) fun b2 => ?_
  refine r_store_all (cs := zeroA.cs) (vs := a.cs) (by exact tz rfl) (by exact rfl) (by exact rfl) (by iterate 24 (first | exact .hd | apply Upd.tl | skip)) rfl rfl rfl rfl ?_
  refine r_assign (k := ?_)
  refine r_assign (k := ?_)
  refine sl_nil ?_
  refine sp_then ?_
  refine sw_seq ?_
  have hc0 : p.d0.cache.xs.length < 1000 := Nat.lt_of_le_of_lt hp.h0.cache (by decide)
  have hc1 : p.d1.cache.xs.length < 1000 := Nat.lt_of_le_of_lt hp.h1.cache (by decide)
  have hr6 : (plainA 6 (UInt16.ofNat 32) 3 6).right = true := plain_right 6 32 (by decide) (by decide) (by decide) (by decide)
  have h6 : (encV (plainA 6 (UInt16.ofNat 32) 3 6)).2 = 0 := by unfold encV; rw [if_pos hr6]
  refine sw_thenE (ι := { s : PairV × Nat // s.1.holds 32 1 sixT }) (fun s => [(0, vb false), (1, .pointer (some ⟨b1, 0, none⟩)), (2, .pointer (some ⟨b2, 0, none⟩)), (3, vi 4), (4, vi 120), (5, .pointer (some ⟨s.1.2, 0, none⟩)), (6, vi 0)]) (fun s => [.box s.1.2 s.1.1.cs 63, .box b2 a.cs 32, .box b1 p.cs 63])
    (fun s => [s.1.1.d0.rp, s.1.1.d0.rc, s.1.1.d0.rb, s.1.1.d1.rp, s.1.1.d1.rc, s.1.1.d1.rb, BS.nil.res]) [] ?_ fun s => ?_
  · 
    refine sw_draw [(none, .box b2 a.cs 32), (none, .box b1 p.cs 63)] [] [0, 1, 2, 3, 4, 5, 6, 7, 8] mix (by kernel_rfl) rfl ?_
    refine ra_first 0 [(none, .box b2 a.cs 32), (none, .box b1 p.cs 63)] [1, 2, 3, 4, 5, 6, 7, 8] (hq := by exact q_load_all (cs := p.cs) (by exact tz rfl) (by exact rfl) (.tail _ (.head _)) rfl) (k := ?_)
    refine ra2 (i := 1) (j := 6) [2, 3, 4, 5, 6, 7, 8] [1, 2, 3, 4, 5, 7, 8] (by kernel_rfl) rfl rfl rfl rfl ?_ ?_
    · 
      refine r_call1 (c_plain3 GW 6 32 (by decide)) (by exact rfl) (by exact rfl) (by exact rfl) (by simp) (by exact rfl) ?_
      refine sl_nil ?_
      refine sp_nx (k := ?_)
      refine ra2 (i := 2) (j := 6) [3, 4, 5, 6, 7, 8] [2, 3, 4, 5, 7, 8] (by kernel_rfl) rfl rfl rfl rfl ?_ ?_
      · 
        refine r_callF (c_rput p ho0 ho1 (by rw [hp.live]; decide) (plainA 6 (UInt16.ofNat 32) 3 6) ⟨Nat.le_refl _, Nat.zero_le _⟩ hc0 hc1) (by exact rfl) (by exact rfl) (by exact rfl) (PhAll.all (by repeat' (first | trivial | exact .head _ | apply And.intro | apply List.Mem.tail))) (by exact rfl) ?_
        rintro _ _ ⟨s, rfl, hs, rfl⟩
        refine sl_nil ?_
        refine sp_nx (k := ?_)
        refine ra_first 3 [] [4, 5, 6, 7, 8] (hq := by exact q_move) (k := ?_)
        refine ra_first 4 [] [5, 6, 7, 8] (hq := by exact q_ext) (k := ?_)
        refine ra_first 5 [] [6, 7, 8] (hq := by exact q_ext) (k := ?_)
        refine ra1 (i := 6) [7, 8] (h := ?_)
        refine r_alloc (by exact z63) (by exact rfl) (by exact rfl) fun b5 => ?_
        refine sl_nil ?_
        refine sp_nx (k := ?_)
        refine ra1 (i := 7) [8] (h := ?_)
        refine r_store_all (k := ?_)
        refine sl_nil ?_
        refine sp_nx (k := ?_)
        refine ra_first 8 [] [] (hq := by exact q_assign) (k := ?_)
        refine ra_done ?_
        refine sp_re (t := 6) (v' := vi 0) rfl (by rw [h6]) ?_
        exact sp_cutE ⟨(s, b5), hp.put (by decide) _ hr6 (plain_size 6 32 (by decide)) hs⟩ (by repeat' (first | trivial | exact rfl | apply And.intro)) (by repeat' (first | trivial | exact .head _ | apply And.intro | apply List.Mem.tail)) rfl
      · 
        refine r_alloc (by exact z63) (by exact rfl) (by exact rfl) fun b5 => ?_
        refine sl_nil ?_
        refine sp_nx (k := ?_)
        refine ra1 (i := 2) [3, 4, 5, 7, 8] (h := ?_)
        refine r_callF (c_rput p ho0 ho1 (by rw [hp.live]; decide) (plainA 6 (UInt16.ofNat 32) 3 6) ⟨Nat.le_refl _, Nat.zero_le _⟩ hc0 hc1) (by exact rfl) (by exact rfl) (by exact rfl) (PhAll.all (by repeat' (first | trivial | exact .head _ | apply And.intro | apply List.Mem.tail))) (by exact rfl) ?_
        rintro _ _ ⟨s, rfl, hs, rfl⟩
        refine sl_nil ?_
        refine sp_nx (k := ?_)
        refine ra_first 3 [] [4, 5, 7, 8] (hq := by exact q_move) (k := ?_)
        refine ra_first 4 [] [5, 7, 8] (hq := by exact q_ext) (k := ?_)
        refine ra_first 5 [] [7, 8] (hq := by exact q_ext) (k := ?_)
        refine ra1 (i := 7) [8] (h := ?_)
        refine r_store_all (k := ?_)
        refine sl_nil ?_
        refine sp_nx (k := ?_)
        refine ra_first 8 [] [] (hq := by exact q_assign) (k := ?_)
        refine ra_done ?_
        refine sp_re (t := 6) (v' := vi 0) rfl (by rw [h6]) ?_
        exact sp_cutE ⟨(s, b5), hp.put (by decide) _ hr6 (plain_size 6 32 (by decide)) hs⟩ (by repeat' (first | trivial | exact rfl | apply And.intro)) (by repeat' (first | trivial | exact .head _ | apply And.intro | apply List.Mem.tail)) rfl
    · 
      refine r_alloc (by exact z63) (by exact rfl) (by exact rfl) fun b5 => ?_
      refine sl_nil ?_
      refine sp_nx (k := ?_)
      refine ra1 (i := 1) [2, 3, 4, 5, 7, 8] (h := ?_)
      refine r_call1 (c_plain3 GW 6 32 (by decide)) (by exact rfl) (by exact rfl) (by exact rfl) (by simp) (by exact rfl) ?_
      refine sl_nil ?_
      refine sp_nx (k := ?_)
      refine ra1 (i := 2) [3, 4, 5, 7, 8] (h := ?_)
      refine r_callF (c_rput p ho0 ho1 (by rw [hp.live]; decide) (plainA 6 (UInt16.ofNat 32) 3 6) ⟨Nat.le_refl _, Nat.zero_le _⟩ hc0 hc1) (by exact rfl) (by exact rfl) (by exact rfl) (PhAll.all (by repeat' (first | trivial | exact .head _ | apply And.intro | apply List.Mem.tail))) (by exact rfl) ?_
      rintro _ _ ⟨s, rfl, hs, rfl⟩
      refine sl_nil ?_
      refine sp_nx (k := ?_)
      refine ra_first 3 [] [4, 5, 7, 8] (hq := by exact q_move) (k := ?_)
      refine ra_first 4 [] [5, 7, 8] (hq := by exact q_ext) (k := ?_)
      refine ra_first 5 [] [7, 8] (hq := by exact q_ext) (k := ?_)
      refine ra1 (i := 7) [8] (h := ?_)
      refine r_store_all (k := ?_)
      refine sl_nil ?_
      refine sp_nx (k := ?_)
      refine ra_first 8 [] [] (hq := by exact q_assign) (k := ?_)
      refine ra_done ?_
      refine sp_re (t := 6) (v' := vi 0) rfl (by rw [h6]) ?_
      exact sp_cutE ⟨(s, b5), hp.put (by decide) _ hr6 (plain_size 6 32 (by decide)) hs⟩ (by repeat' (first | trivial | exact rfl | apply And.intro)) (by repeat' (first | trivial | exact .head _ | apply And.intro | apply List.Mem.tail)) rfl
  obtain ⟨⟨s, b5⟩, hs⟩ := s
  dsimp only at hs ⊢
  refine sw_seq ?_
  refine sw_region ?_
  refine r_load_all (k := ?_)
  refine r_callF (c_newestR s hs.o0 hs.o1) (by exact rfl) (by exact rfl) (by exact rfl) (PhAll.all (by repeat' (first | trivial | exact .head _ | apply And.intro | apply List.Mem.tail))) (by exact rfl) ?_
  rintro _ _ ⟨A2, a2, rfl, hA2, hak2, ha2, rfl⟩
  obtain ⟨hA28, hS2⟩ := hs.sym hA2 (L := fun n => if n = 2 then 6 else 0) (by
    intro n hn
    obtain rfl | rfl | rfl | rfl : n = 0 ∨ n = 1 ∨ n = 2 ∨ n = 3 := by omega
    · exact ⟨rfl, fun h => absurd rfl h⟩
    · exact ⟨rfl, fun h => absurd rfl h⟩
    · exact ⟨rfl, fun _ => rfl⟩
    · exact ⟨rfl, fun h => absurd rfl h⟩)
  have f1 : newE (liveN s) (NSt.all A2) = 0 := by rw [newE_sym (by rw [hs.live]; decide) hA28 hS2]; rfl
  have f2 : doubtN (NSt.all A2).th 4 = 3 := by rw [(nums_all hA28 hS2).th]; rfl
  have f3 : a2.tx.toNat = 6 := by rw [ha2 f1, (nums_all hA28 hS2).a]; rfl
  rw [f1, f2]
  refine r_move (k := ?_)
  refine r_ext (k := ?_)
  refine r_ext (k := ?_)
  refine r_ext (k := ?_)
  refine r_alloc (by exact z32) (cs := zeroA.cs) (by kernel_rfl) (by exact rfl) fun b7 => ?_
  refine r_store_all (cs := zeroA.cs) (vs := a2.cs) (by exact tz rfl) (by exact rfl) (by exact rfl) (by iterate 24 (first | exact .hd | apply Upd.tl | skip)) rfl rfl rfl rfl ?_
  refine r_assign (k := ?_)
  refine r_assign (k := ?_)
  refine sl_nil ?_
  refine sp_then ?_
  refine sw_seq ?_
  refine sw_region ?_
  refine r_load_all (k := ?_)
  refine r_call1 (c_renew2 GW p) (by exact rfl) (by exact rfl) (by exact rfl) (by simp) (by exact rfl) ?_
  refine r_move (k := ?_)
  refine r_ext (k := ?_)
  refine r_ext (k := ?_)
  refine r_alloc (by exact z63) (by exact rfl) (by exact rfl) fun b10 => ?_
  refine r_store_all (k := ?_)
  refine r_assign (k := ?_)
  refine sl_nil ?_
  refine sp_then ?_
  refine sw_seq ?_
  refine sw_region ?_
  refine r_move (k := ?_)
  refine r_eql (k := ?_)
  refine r_move (k := ?_)
  refine r_re (t := 38) (v' := vb true) rfl rfl ?_
  refine gd_yes (k := ?_)
  refine r_move (k := ?_)
  refine gd_yes (k := ?_)
  refine r_eql (k := ?_)
  refine rd_pick_t (k := ?_)
  refine r_move (k := ?_)
  refine r_re (t := 42) (v' := vb true) rfl rfl ?_
  refine gd_yes (k := ?_)
  refine r_move (k := ?_)
  refine gd_yes (k := ?_)
  refine r_eql (k := ?_)
  refine rd_pick_t (k := ?_)
  refine r_move (k := ?_)
  refine r_re (t := 46) (v' := vb true) rfl rfl ?_
  refine gd_yes (k := ?_)
  refine r_move (k := ?_)
  refine gd_yes (k := ?_)
  refine r_eql (k := ?_)
  refine rd_pick_t (k := ?_)
  refine r_move (k := ?_)
  refine r_re (t := 50) (v' := vb true) rfl rfl ?_
  refine gd_yes (k := ?_)
  refine r_fieldAddr (k := ?_)
  refine gd_yes (k := ?_)
  refine r_load_one (k := ?_)
  refine gd_yes (k := ?_)
  refine r_eql (k := ?_)
  refine rd_pick_t (k := ?_)
  refine r_move (k := ?_)
  refine r_re (t := 55) (v' := vb true) rfl (by rw [f3]; rfl) ?_
  refine gd_yes (k := ?_)
  refine r_move (k := ?_)
  refine gd_yes (k := ?_)
  refine r_eql (k := ?_)
  refine rd_pick_t (k := ?_)
  refine r_move (k := ?_)
  refine r_re (t := 59) (v' := vb true) rfl rfl ?_
  refine gd_yes (k := ?_)
  refine r_move (k := ?_)
  refine gd_yes (k := ?_)
  refine r_eql (k := ?_)
  refine rd_pick_t (k := ?_)
  refine r_move (k := ?_)
  refine r_re (t := 63) (v' := vb true) rfl rfl ?_
  refine gd_yes (k := ?_)
  refine r_load_all (k := ?_)
  refine gd_yes (k := ?_)
  refine r_callF (c_slots s hs.o0 hs.o1) (by exact rfl) (by exact rfl) (by exact rfl) (PhAll.all (by repeat' (first | trivial | exact .head _ | apply And.intro | apply List.Mem.tail))) (by exact rfl) ?_
  rintro _ _ ⟨A3, rfl, hA3, -, rfl⟩
  obtain ⟨hA38, hS3⟩ := hs.sym hA3 (L := fun n => if n = 2 then 6 else 0) (by
    intro n hn
    obtain rfl | rfl | rfl | rfl : n = 0 ∨ n = 1 ∨ n = 2 ∨ n = 3 := by omega
    · exact ⟨rfl, fun h => absurd rfl h⟩
    · exact ⟨rfl, fun h => absurd rfl h⟩
    · exact ⟨rfl, fun _ => rfl⟩
    · exact ⟨rfl, fun h => absurd rfl h⟩)
  have hy6 : (atA A3 true 2).tx.toNat = 6 := (hS3 true 2 (by decide)).1
  have hy : atA A3 true 2 = A3[6] := by simp [atA, List.getD, bN, hA38]
  have h66 : A3[6].tx.toNat = 6 := by rw [← hy]; exact hy6
  refine gd_yes (k := ?_)
  refine r_indexA (vs := ancsV (A3.drop 4)) (i := 1) (by exact ta rfl) (by exact tz rfl) (by exact rfl) (by exact rfl) (by decide) (by decide) rfl (by rw [part', show 1 * 56 = 4 * 14 from rfl, ancsV_drop]; exact List.take_of_length_le (by rw [ancsV_len, List.length_drop, hA38]; exact Nat.le_refl _)) (by rw [ancsV_len, List.length_drop, hA38]) (by exact rfl) ?_
  refine gd_yes (k := ?_)
  refine r_indexA (vs := A3[6].cs) (i := 2) (by exact ta rfl) (by exact tz rfl) (by exact rfl) (by exact rfl) (by decide) (by decide) rfl (by exact (ancsV_at (A3.drop 4) 2 (by rw [List.length_drop, hA38]; decide)).trans (by rw [List.getElem_drop])) rfl (by exact rfl) ?_
  refine gd_yes (k := ?_)
  refine r_field1 (k := ?_)
  refine gd_yes (k := ?_)
  refine r_eql (k := ?_)
  refine rd_pick_t (k := ?_)
  refine r_assign (k := ?_)
  refine sl_nil ?_
  refine sp_then ?_
  refine sw_ret ?_
  refine sp_retv rfl rfl (.tmp rfl) rfl rfl ⟨by rw [h66]; rfl, rfl, rfl⟩ (by simp) rfl (by simp)
end Go.Proofs.YtjahiohlekdhoaaDoor

namespace Go.Proofs.YtjahiohlekdhoaaDoor
open Go
set_option maxHeartbeats 4000000
set_option maxRecDepth 4000
attribute [local irreducible] SW SL SP RA Then FQ IQ LoopQ RQ AQ NX CutQ Exit.noGoto

theorem c_r9slot (G : Res) (tx : UInt32) : Ctr Tryd.prog G 25 [v32 tx] [] [] (ret1 (vi ((tx % 4).toNat : Int))) := by
  refine Ctr.intro Tryd.func25 (by kernel_rfl) rfl Tryd.ntmps25 rfl rfl rfl fun w X => ?_
  refine sw_seq ?_
  refine sw_region ?_
  refine r_assign (k := ?_)
  refine sl_nil ?_
  refine sp_then ?_
  refine sw_seq ?_
  refine sw_region ?_
  refine r_move (k := ?_)
  refine r_rem32c (k := ?_)
  refine r_cv_32_i (k := ?_)
  refine r_assign (k := ?_)
  refine sl_nil ?_
  refine sp_then ?_
  refine sw_ret ?_
  refine sp_retv rfl rfl (.tmp rfl) rfl rfl ⟨rfl, rfl, rfl⟩ (by simp) rfl (by simp)

end Go.Proofs.YtjahiohlekdhoaaDoor
