/-
  The walks of the document's anchors: the newest one, pages.
-/
import Derived.Test.YtjahiohlekdhoaaDoorRef9r
import Derived.Test.YtjahiohlekdhoaaDoorPure9
namespace Go.Proofs.YtjahiohlekdhoaaDoor
open Go
set_option maxHeartbeats 4000000
set_option maxRecDepth 4000
attribute [local irreducible] SW SL SP RA Then FQ IQ LoopQ RQ AQ NX CutQ Exit.noGoto

theorem c_r9newest (G : Res) (ba : Option Addr) (cap : Nat) (L : List AncV) (hn : L.length ≤ maxLen) : Ctr Tryd.prog G 26 [.slice ba L.length cap] [] [Res.mem ba (ancsV L)] (ret1 (vi (newI L L.length))) := by
  have hn' : L.length ≤ 9223372036854775807 := hn
  have hal := ancsV_len L
  refine Ctr.intro Tryd.func26 (by kernel_rfl) rfl Tryd.ntmps26 rfl rfl rfl fun w X => ?_
  refine sw_seq ?_
  refine sw_region ?_
  refine r_assign (k := ?_)
  refine sl_nil ?_
  refine sp_then ?_
  refine sw_seq ?_
  refine sw_region ?_
  refine r_assign (k := ?_)
  refine sl_nil ?_
  refine sp_then ?_
  refine sw_seq ?_
  refine sw_seq ?_
  refine sw_region ?_
  refine r_assign (k := ?_)
  refine sl_nil ?_
  refine sp_then ?_
  refine sw_block ?_
  refine sw_loop (ι := { i : Nat // i ≤ L.length }) (fun i => [(0, .slice ba L.length cap), (3, vi (newI L i.1)), (4, vi (i.1 : Int))]) (fun _ => []) (fun _ => [Res.mem ba (ancsV L)]) (fun _ => []) (fun i => L.length - i.1) ⟨0, by omega⟩ ?_ fun i => ?_
  · exact Ent.mk' (by repeat' (first | trivial | exact rfl | apply And.intro)) (by repeat' (first | trivial | exact .head _ | exact .tail _ (.head _) | exact .tail _ (.tail _ (.head _)) | exact .tail _ (.tail _ (.tail _ (.head _))) | exact .tail _ (.tail _ (.tail _ (.tail _ (.head _)))) | exact .tail _ (.tail _ (.tail _ (.tail _ (.tail _ (.head _))))) | exact .tail _ (.tail _ (.tail _ (.tail _ (.tail _ (.tail _ (.head _)))))) | exact .tail _ (.tail _ (.tail _ (.tail _ (.tail _ (.tail _ (.tail _ (.head _))))))) | exact .tail _ (.tail _ (.tail _ (.tail _ (.tail _ (.tail _ (.tail _ (.tail _ (.head _)))))))) | exact .tail _ (.tail _ (.tail _ (.tail _ (.tail _ (.tail _ (.tail _ (.tail _ (.tail _ (.head _))))))))) | exact .tail _ (.tail _ (.tail _ (.tail _ (.tail _ (.tail _ (.tail _ (.tail _ (.tail _ (.tail _ (.head _)))))))))) | exact .tail _ (.tail _ (.tail _ (.tail _ (.tail _ (.tail _ (.tail _ (.tail _ (.tail _ (.tail _ (.tail _ (.head _))))))))))) | apply And.intro))
  obtain ⟨i, hi⟩ := i
  dsimp only
  refine sw_seq ?_
  refine sw_seq ?_
  refine sw_region ?_
  refine r_move (k := ?_)
  refine r_move (k := ?_)
  refine r_len (k := ?_)
  refine r_lss (k := ?_)
  refine sl_nil ?_
  refine sp_then ?_
  refine sw_cond rfl (fun h => ?_) (fun h => ?_)
  · have h := of_decide_eq_true h
    have hi' : i < L.length := by omega
    have hbd := newI_bound L i
    refine sw_skip ?_
    refine sp_then ?_
    refine sw_seq ?_
    refine sw_block ?_
    refine sw_seq ?_
    
    refine sw_draw [] [Res.mem ba (ancsV L)] [0, 1, 2, 3, 4, 5, 6, 7, 8, 9, 10, 11, 12, 13, 14] mix (by kernel_rfl) rfl ?_
    refine ra_first 0 [] [1, 2, 3, 4, 5, 6, 7, 8, 9, 10, 11, 12, 13, 14] (hq := by exact q_move) (k := ?_)
    refine ra_first 1 [] [2, 3, 4, 5, 6, 7, 8, 9, 10, 11, 12, 13, 14] (hq := by exact q_lss) (k := ?_)
    refine ra_first 2 [] [3, 4, 5, 6, 7, 8, 9, 10, 11, 12, 13, 14] (hq := by exact q_move) (k := ?_)
    
    refine ra_part (t := 13) rfl (fun hat => ?_) (fun hat => ?_)
    · have hat := of_decide_eq_true hat
      have e : newI L (i + 1) = (i : Int) := by rw [newI, if_pos hat]
      
      refine ra_skip 3 [4, 5, 6, 7, 8, 9, 10, 11, 12, 13, 14] (k := ?_)
      refine ra_skip 4 [5, 6, 7, 8, 9, 10, 11, 12, 13, 14] (k := ?_)
      refine ra_skip 5 [6, 7, 8, 9, 10, 11, 12, 13, 14] (k := ?_)
      refine ra_skip 6 [7, 8, 9, 10, 11, 12, 13, 14] (k := ?_)
      refine ra_skip 7 [8, 9, 10, 11, 12, 13, 14] (k := ?_)
      refine ra_skip 8 [9, 10, 11, 12, 13, 14] (k := ?_)
      refine ra_skip 9 [10, 11, 12, 13, 14] (k := ?_)
      refine ra_skip 10 [11, 12, 13, 14] (k := ?_)
      refine ra_skip 11 [12, 13, 14] (k := ?_)
      refine ra_skip 12 [13, 14] (k := ?_)
      refine ra_skip 13 [14] (k := ?_)
      refine ra_first 14 [] [] (hq := by first | exact q_pick_t | exact q_pick_f) (k := ?_)
      refine ra_done ?_
      refine sp_then ?_
      refine swd_t (h := ?_)
      refine sw_region ?_
      refine r_move (k := ?_)
      refine r_assign (k := ?_)
      refine sl_nil ?_
      refine sp_block ?_
      refine sp_then ?_
      refine sw_region ?_
      refine r_move (k := ?_)
      refine r_add64 (k := ?_)
      refine r_assign (k := ?_)
      refine sl_nil ?_
      refine sp_re (t := 3) (v' := vi (newI L (i + 1))) rfl (by rw [e]) ?_
      refine sp_loop (ι := { i : Nat // i ≤ L.length }) ⟨i + 1, by omega⟩ ?_ ?_
      · dsimp only; omega
      · exact Ent.mk' (by repeat' (first | trivial | exact rfl | apply And.intro)) (by repeat' (first | trivial | exact .head _ | exact .tail _ (.head _) | exact .tail _ (.tail _ (.head _)) | exact .tail _ (.tail _ (.tail _ (.head _))) | exact .tail _ (.tail _ (.tail _ (.tail _ (.head _)))) | exact .tail _ (.tail _ (.tail _ (.tail _ (.tail _ (.head _))))) | exact .tail _ (.tail _ (.tail _ (.tail _ (.tail _ (.tail _ (.head _)))))) | exact .tail _ (.tail _ (.tail _ (.tail _ (.tail _ (.tail _ (.tail _ (.head _))))))) | exact .tail _ (.tail _ (.tail _ (.tail _ (.tail _ (.tail _ (.tail _ (.tail _ (.head _)))))))) | exact .tail _ (.tail _ (.tail _ (.tail _ (.tail _ (.tail _ (.tail _ (.tail _ (.tail _ (.head _))))))))) | exact .tail _ (.tail _ (.tail _ (.tail _ (.tail _ (.tail _ (.tail _ (.tail _ (.tail _ (.tail _ (.head _)))))))))) | exact .tail _ (.tail _ (.tail _ (.tail _ (.tail _ (.tail _ (.tail _ (.tail _ (.tail _ (.tail _ (.tail _ (.head _))))))))))) | apply And.intro))
    · have hat := of_decide_eq_false hat
      obtain ⟨j, hj⟩ : ∃ j : Nat, newI L i = (j : Int) := ⟨(newI L i).toNat, by omega⟩
      have hjl : j < L.length := by omega
      have hjt : (newI L i).toNat = j := by omega
      have e : newI L (i + 1) = if (L[j].tx.toNat : Int) < (L[i].tx.toNat : Int) then (i : Int) else newI L i := by
        rw [newI, if_neg hat, hjt]
        simp [hjl, hi']
      
      
      refine ra_firstg 3 [] [4, 5, 6, 7, 8, 9, 10, 11, 12, 13, 14] (hq := by exact q_move) (k := ?_)
      refine ra_firstg 4 [] [5, 6, 7, 8, 9, 10, 11, 12, 13, 14] (hq := by exact q_move) (k := ?_)
      refine ra_firstg 5 [] [6, 7, 8, 9, 10, 11, 12, 13, 14] (hq := by exact q_idx (i := i) (cs := ancsV L) (by exact tl rfl) (by exact rfl) (by exact rfl) (by omega) (by omega) (.head _) (by omega) (by exact rfl) (by exact Int.toNat_natCast _)) (k := ?_)
      refine ra_firstg 6 [] [7, 8, 9, 10, 11, 12, 13, 14] (hq := by exact q_fieldAddr_mem (o := i * 14) (cs := ancsV L) (by exact tf rfl rfl) (by exact rfl) (by exact rfl) (.head _) (by omega)) (k := ?_)
      refine ra_firstg 7 [] [8, 9, 10, 11, 12, 13, 14] (hq := by exact q_load_mem1 (o := i * 14 + 0) (v := v32 L[i].tx) (cs := ancsV L) (by exact tz rfl) (by exact rfl) (.head _) (ancsV_tx L i hi')) (k := ?_)
      refine ra_firstg 8 [] [9, 10, 11, 12, 13, 14] (hq := by exact q_move) (k := ?_)
      refine ra_firstg 9 [] [10, 11, 12, 13, 14] (hq := by exact q_move) (k := ?_)
      refine ra_firstg 10 [] [11, 12, 13, 14] (hq := by exact q_idx (i := j) (cs := ancsV L) (by exact tl rfl) (by exact rfl) (by exact rfl) (by omega) (by omega) (.head _) (by omega) (by exact rfl) hjt) (k := ?_)
      refine ra_firstg 11 [] [12, 13, 14] (hq := by exact q_fieldAddr_mem (o := j * 14) (cs := ancsV L) (by exact tf rfl rfl) (by exact rfl) (by exact rfl) (.head _) (by omega)) (k := ?_)
      refine ra_firstg 12 [] [13, 14] (hq := by exact q_load_mem1 (o := j * 14 + 0) (v := v32 L[j].tx) (cs := ancsV L) (by exact tz rfl) (by exact rfl) (.head _) (ancsV_tx L j hjl)) (k := ?_)
      refine ra_firstg 13 [] [14] (hq := by exact q_gtr) (k := ?_)
      refine ra_first 14 [] [] (hq := by first | exact q_pick_t | exact q_pick_f) (k := ?_)
      refine ra_done ?_
      refine sp_then ?_
      refine sw_cond rfl (fun h => ?_) (fun h => ?_)
      · have h := of_decide_eq_true h
        refine sw_region ?_
        refine r_move (k := ?_)
        refine r_assign (k := ?_)
        refine sl_nil ?_
        refine sp_block ?_
        refine sp_then ?_
        refine sw_region ?_
        refine r_move (k := ?_)
        refine r_add64 (k := ?_)
        refine r_assign (k := ?_)
        refine sl_nil ?_
        refine sp_re (t := 3) (v' := vi (newI L (i + 1))) rfl (by rw [e, if_pos h]) ?_
        refine sp_loop (ι := { i : Nat // i ≤ L.length }) ⟨i + 1, by omega⟩ ?_ ?_
        · dsimp only; omega
        · exact Ent.mk' (by repeat' (first | trivial | exact rfl | apply And.intro)) (by repeat' (first | trivial | exact .head _ | exact .tail _ (.head _) | exact .tail _ (.tail _ (.head _)) | exact .tail _ (.tail _ (.tail _ (.head _))) | exact .tail _ (.tail _ (.tail _ (.tail _ (.head _)))) | exact .tail _ (.tail _ (.tail _ (.tail _ (.tail _ (.head _))))) | exact .tail _ (.tail _ (.tail _ (.tail _ (.tail _ (.tail _ (.head _)))))) | exact .tail _ (.tail _ (.tail _ (.tail _ (.tail _ (.tail _ (.tail _ (.head _))))))) | exact .tail _ (.tail _ (.tail _ (.tail _ (.tail _ (.tail _ (.tail _ (.tail _ (.head _)))))))) | exact .tail _ (.tail _ (.tail _ (.tail _ (.tail _ (.tail _ (.tail _ (.tail _ (.tail _ (.head _))))))))) | exact .tail _ (.tail _ (.tail _ (.tail _ (.tail _ (.tail _ (.tail _ (.tail _ (.tail _ (.tail _ (.head _)))))))))) | exact .tail _ (.tail _ (.tail _ (.tail _ (.tail _ (.tail _ (.tail _ (.tail _ (.tail _ (.tail _ (.tail _ (.head _))))))))))) | apply And.intro))
      · have h := of_decide_eq_false h
        refine sw_skip ?_
        refine sp_block ?_
        refine sp_then ?_
        refine sw_region ?_
        refine r_move (k := ?_)
        refine r_add64 (k := ?_)
        refine r_assign (k := ?_)
        refine sl_nil ?_
        refine sp_re (t := 3) (v' := vi (newI L (i + 1))) rfl (by rw [e, if_neg h]) ?_
        refine sp_loop (ι := { i : Nat // i ≤ L.length }) ⟨i + 1, by omega⟩ ?_ ?_
        · dsimp only; omega
        · exact Ent.mk' (by repeat' (first | trivial | exact rfl | apply And.intro)) (by repeat' (first | trivial | exact .head _ | exact .tail _ (.head _) | exact .tail _ (.tail _ (.head _)) | exact .tail _ (.tail _ (.tail _ (.head _))) | exact .tail _ (.tail _ (.tail _ (.tail _ (.head _)))) | exact .tail _ (.tail _ (.tail _ (.tail _ (.tail _ (.head _))))) | exact .tail _ (.tail _ (.tail _ (.tail _ (.tail _ (.tail _ (.head _)))))) | exact .tail _ (.tail _ (.tail _ (.tail _ (.tail _ (.tail _ (.tail _ (.head _))))))) | exact .tail _ (.tail _ (.tail _ (.tail _ (.tail _ (.tail _ (.tail _ (.tail _ (.head _)))))))) | exact .tail _ (.tail _ (.tail _ (.tail _ (.tail _ (.tail _ (.tail _ (.tail _ (.tail _ (.head _))))))))) | exact .tail _ (.tail _ (.tail _ (.tail _ (.tail _ (.tail _ (.tail _ (.tail _ (.tail _ (.tail _ (.head _)))))))))) | exact .tail _ (.tail _ (.tail _ (.tail _ (.tail _ (.tail _ (.tail _ (.tail _ (.tail _ (.tail _ (.tail _ (.head _))))))))))) | apply And.intro))
  · have h := of_decide_eq_false h
    obtain rfl : i = L.length := by omega
    refine sw_exit ?_
    refine sp_then_exit ?_
    refine sp_loop_exit ?_
    refine sp_block_exit ?_
    refine sp_then ?_
    refine sw_seq ?_
    refine sw_region ?_
    refine r_move (k := ?_)
    refine r_assign (k := ?_)
    refine sl_nil ?_
    refine sp_then ?_
    refine sw_ret ?_
    refine sp_retv rfl rfl (.tmp rfl) rfl rfl ⟨rfl, rfl, rfl⟩ (by simp) rfl (by simp)

theorem body_parts (a : AncV) : a.body = ((((((((([65] ++ le 4 a.tx.toUInt64) ++ le 2 a.size.toUInt64) ++ a.root.bytes) ++ le 4 a.count.toUInt64) ++ [a.live]) ++ le 4 a.both.toUInt64) ++ [a.mark.on, a.mark.disk]) ++ le 4 a.mark.since.toUInt64) ++ UInt8.ofNat a.mark.key.xs.length :: a.mark.key.xs) := by
  have h1 : ∀ x : UInt8, le 1 x.toUInt64 = [x] := fun x => by simp only [le, wide8]
  simp only [AncV.body, AncV.head, AncV.nums, List.foldl_cons, List.foldl_nil, putN, h1]
  simp

theorem c_r9encode (a : AncV) (hok : a.mark.key.ok) : Ctr Tryd.prog GW 20 [a.v] [] [a.mark.key.res] (ret1 (.tuple #[.agg (bv (encV a).1).toArray, vi (encV a).2])) := by
  refine Ctr.intro Tryd.func20 (by kernel_rfl) rfl Tryd.ntmps20 rfl rfl rfl fun w X => ?_
  refine sw_seq ?_
  refine sw_region ?_
  refine r_box (cs := a.cs) (by exact rfl) rfl (by exact rfl) fun b1 => ?_
  refine r_alloc (by exact z37) (cs := bv (zeros 256)) (by kernel_rfl) (by exact rfl) fun b2 => ?_
  refine r_assign (k := ?_)
  refine sl_nil ?_
  refine sp_then ?_
  refine sw_seq ?_
  refine sw_seq ?_
  refine sw_region ?_
  refine r_load_all (k := ?_)
  refine r_call1 (c_r9right GW a) (by exact rfl) (by exact rfl) (by exact rfl) (by simp) (by exact rfl) ?_
  refine r_not (k := ?_)
  refine sl_nil ?_
  refine sp_then ?_
  refine sw_cond rfl (fun h => ?_) (fun h => ?_)
  · have h : a.right = false := by simpa using h
    have e : encV a = (zeros 256, 2) := by unfold encV; rw [h]; rfl
    rw [e]
    refine sw_seq ?_
    refine sw_region ?_
    refine r_buildP (bv (zeros 256)) (parts := []) (by exact rfl) (by kernel_rfl) (by exact rfl) ?_
    refine r_store_all (cs := bv (zeros 256)) (vs := bv (zeros 256)) (by exact tz rfl) (by exact rfl) (by exact rfl) (by first | exact .hd | exact .tl (.hd) | exact .tl (.tl (.hd)) | exact .tl (.tl (.tl (.hd))) | exact .tl (.tl (.tl (.tl (.hd)))) | exact .tl (.tl (.tl (.tl (.tl (.hd))))) | exact .tl (.tl (.tl (.tl (.tl (.tl (.hd)))))) | exact .tl (.tl (.tl (.tl (.tl (.tl (.tl (.hd))))))) | exact .tl (.tl (.tl (.tl (.tl (.tl (.tl (.tl (.hd)))))))) | exact .tl (.tl (.tl (.tl (.tl (.tl (.tl (.tl (.tl (.hd))))))))) | exact .tl (.tl (.tl (.tl (.tl (.tl (.tl (.tl (.tl (.tl (.hd)))))))))) | exact .tl (.tl (.tl (.tl (.tl (.tl (.tl (.tl (.tl (.tl (.tl (.hd)))))))))))) rfl rfl (bv_one _) rfl ?_
    refine r_assign (k := ?_)
    refine sl_nil ?_
    refine sp_then ?_
    refine sw_ret ?_
    refine sp_then_ret ?_
    refine sp_ret2 rfl rfl (.agg rfl (tz rfl) rfl (.head _)) (.tmp rfl) rfl rfl ⟨rfl, rfl, rfl⟩ (by simp) rfl (by simp)
  have h : a.right = true := by simpa using h
  have e : encV a = (a.page, 0) := by unfold encV; rw [h]; rfl
  have hk8 := right_key a h
  have hbl := body_len a
  rw [e]
  refine sw_skip ?_
  refine sp_then ?_
  refine sw_seq ?_
  refine sw_region ?_
  refine r_litB (xs := [.const (.int .u8 65)]) (bs := [65]) (by exact tl rfl) (by exact z5) (by exact rfl) (by exact rfl) (by exact rfl) (by exact rfl) (by exact rfl) fun v _ _ => ?_
  refine o_rowB fun s0 _ h0 e => ?_
  subst e
  have l0 : s0.xs.length = 1 := by rw [h0]; rfl
  refine r_fieldAddr (k := ?_)
  refine r_load_one (k := ?_)
  refine r_cv_32_64 (k := ?_)
  refine r_callB (c_r2put GW s0 a.tx.toUInt64 4 (by decide) (by decide) (by omega)) (by exact rfl) (by exact rfl) (by exact rfl) (by simp) (by exact rfl) fun s1 _ h1 => ?_
  have l1 : s1.xs.length = 5 := by rw [h1]; simp [le_length, l0]
  refine r_assign (k := ?_)
  refine sl_nil ?_
  refine sp_then ?_
  refine sw_seq ?_
  refine sw_region ?_
  refine r_move (k := ?_)
  refine r_fieldAddr (k := ?_)
  refine r_load_one (k := ?_)
  refine r_cv_16_64 (k := ?_)
  refine r_callB (c_r2put GW s1 a.size.toUInt64 2 (by decide) (by decide) (by omega)) (by exact rfl) (by exact rfl) (by exact rfl) (by simp) (by exact rfl) fun s2 _ h2 => ?_
  have l2 : s2.xs.length = 7 := by rw [h2]; simp [le_length, l1]
  refine r_assign (k := ?_)
  refine sl_nil ?_
  refine sp_then ?_
  refine sw_seq ?_
  refine sw_region ?_
  refine r_move (k := ?_)
  refine r_fieldAddr (k := ?_)
  refine r_load_agg (k := ?_)
  refine r_callB (c_r5put GW s2 a.root (by omega)) (by exact rfl) (by exact rfl) (by exact rfl) (by simp) (by exact rfl) fun s3 _ h3 => ?_
  have l3 : s3.xs.length = 24 := by rw [h3]; simp [bytes_len, l2]
  refine r_assign (k := ?_)
  refine sl_nil ?_
  refine sp_then ?_
  refine sw_seq ?_
  refine sw_region ?_
  refine r_move (k := ?_)
  refine r_fieldAddr (k := ?_)
  refine r_load_one (k := ?_)
  refine r_cv_32_64 (k := ?_)
  refine r_callR (Bp := []) (Br := [.box b2 (bv (zeros 256)) 37, .box b1 a.cs 32]) (c_r2putR GW s3 a.count.toUInt64 4 (by decide) (by decide) (by omega)) (by exact rfl) (by exact rfl) (by exact rfl) (by simp) (by exact rfl) fun v4 _ _ => ?_
  refine r_assign (k := ?_)
  refine sl_nil ?_
  refine sp_then ?_
  refine sw_seq ?_
  refine sw_region ?_
  refine r_move (k := ?_)
  refine r_fieldAddr (k := ?_)
  refine r_load_one (k := ?_)
  refine r_litB (xs := [.tmp 33]) (bs := [a.live]) (by exact tl rfl) (by exact z5) (by exact rfl) (by exact rfl) (by exact rfl) (by exact rfl) (by exact rfl) fun v _ _ => ?_
  refine o_rowB fun t1 _ ht1 e => ?_
  subst e
  refine r_appendB (xs := s3.xs ++ le 4 a.count.toUInt64) (s := t1) (by exact tl rfl) (by exact z5) (by exact rfl) (by exact rfl) (by first | exact .head _ | exact .tail _ (.head _) | exact .tail _ (.tail _ (.head _)) | exact .tail _ (.tail _ (.tail _ (.head _))) | exact .tail _ (.tail _ (.tail _ (.tail _ (.head _)))) | exact .tail _ (.tail _ (.tail _ (.tail _ (.tail _ (.head _))))) | exact .tail _ (.tail _ (.tail _ (.tail _ (.tail _ (.tail _ (.head _)))))) | exact .tail _ (.tail _ (.tail _ (.tail _ (.tail _ (.tail _ (.tail _ (.head _))))))) | exact .tail _ (.tail _ (.tail _ (.tail _ (.tail _ (.tail _ (.tail _ (.tail _ (.head _)))))))) | exact .tail _ (.tail _ (.tail _ (.tail _ (.tail _ (.tail _ (.tail _ (.tail _ (.tail _ (.head _))))))))) | exact .tail _ (.tail _ (.tail _ (.tail _ (.tail _ (.tail _ (.tail _ (.tail _ (.tail _ (.tail _ (.head _)))))))))) | exact .tail _ (.tail _ (.tail _ (.tail _ (.tail _ (.tail _ (.tail _ (.tail _ (.tail _ (.tail _ (.tail _ (.head _)))))))))))) (by rw [ht1]; simp [le_length, l3]) (by exact rfl) fun v5 _ _ => ?_
  refine o_rowB fun s5 _ h5 e => ?_
  subst e
  have l5 : s5.xs.length = 29 := by rw [h5, ht1]; simp [le_length, l3]
  refine r_assign (k := ?_)
  refine sl_nil ?_
  refine sp_then ?_
  refine sw_seq ?_
  refine sw_region ?_
  refine r_move (k := ?_)
  refine r_fieldAddr (k := ?_)
  refine r_load_one (k := ?_)
  refine r_cv_32_64 (k := ?_)
  refine r_callR (Bp := []) (Br := [.box b2 (bv (zeros 256)) 37, .box b1 a.cs 32]) (c_r2putR GW s5 a.both.toUInt64 4 (by decide) (by decide) (by omega)) (by exact rfl) (by exact rfl) (by exact rfl) (by simp) (by exact rfl) fun v6 _ _ => ?_
  refine r_assign (k := ?_)
  refine sl_nil ?_
  refine sp_then ?_
  refine sw_seq ?_
  refine sw_region ?_
  refine r_move (k := ?_)
  refine r_fieldAddr (k := ?_)
  refine r_fieldAddr (k := ?_)
  refine r_load_one (k := ?_)
  refine r_fieldAddr (k := ?_)
  refine r_fieldAddr (k := ?_)
  refine r_load_one (k := ?_)
  refine r_litB (xs := [.tmp 44, .tmp 47]) (bs := [a.mark.on, a.mark.disk]) (by exact tl rfl) (by exact z5) (by exact rfl) (by exact rfl) (by exact rfl) (by exact rfl) (by exact rfl) fun v _ _ => ?_
  refine o_rowB fun t2 _ ht2 e => ?_
  subst e
  refine r_appendB (xs := s5.xs ++ le 4 a.both.toUInt64) (s := t2) (by exact tl rfl) (by exact z5) (by exact rfl) (by exact rfl) (by first | exact .head _ | exact .tail _ (.head _) | exact .tail _ (.tail _ (.head _)) | exact .tail _ (.tail _ (.tail _ (.head _))) | exact .tail _ (.tail _ (.tail _ (.tail _ (.head _)))) | exact .tail _ (.tail _ (.tail _ (.tail _ (.tail _ (.head _))))) | exact .tail _ (.tail _ (.tail _ (.tail _ (.tail _ (.tail _ (.head _)))))) | exact .tail _ (.tail _ (.tail _ (.tail _ (.tail _ (.tail _ (.tail _ (.head _))))))) | exact .tail _ (.tail _ (.tail _ (.tail _ (.tail _ (.tail _ (.tail _ (.tail _ (.head _)))))))) | exact .tail _ (.tail _ (.tail _ (.tail _ (.tail _ (.tail _ (.tail _ (.tail _ (.tail _ (.head _))))))))) | exact .tail _ (.tail _ (.tail _ (.tail _ (.tail _ (.tail _ (.tail _ (.tail _ (.tail _ (.tail _ (.head _)))))))))) | exact .tail _ (.tail _ (.tail _ (.tail _ (.tail _ (.tail _ (.tail _ (.tail _ (.tail _ (.tail _ (.tail _ (.head _)))))))))))) (by rw [ht2]; simp [le_length, l5]) (by exact rfl) fun v7 _ _ => ?_
  refine o_rowB fun s7 _ h7 e => ?_
  subst e
  have l7 : s7.xs.length = 35 := by rw [h7, ht2]; simp [le_length, l5]
  refine r_assign (k := ?_)
  refine sl_nil ?_
  refine sp_then ?_
  refine sw_seq ?_
  refine sw_region ?_
  refine r_move (k := ?_)
  refine r_fieldAddr (k := ?_)
  refine r_fieldAddr (k := ?_)
  refine r_load_one (k := ?_)
  refine r_cv_32_64 (k := ?_)
  refine r_callB (c_r2put GW s7 a.mark.since.toUInt64 4 (by decide) (by decide) (by omega)) (by exact rfl) (by exact rfl) (by exact rfl) (by simp) (by exact rfl) fun s8 _ h8 => ?_
  have l8 : s8.xs.length = 39 := by rw [h8]; simp [le_length, l7]
  refine r_assign (k := ?_)
  refine sl_nil ?_
  refine sp_then ?_
  refine sw_seq ?_
  refine sw_region ?_
  refine r_move (k := ?_)
  refine r_fieldAddr (k := ?_)
  refine r_fieldAddr (k := ?_)
  refine r_load_one (k := ?_)
  refine r_callB (c_r2putBytes GW s8 a.mark.key hok (by omega) (by omega)) (by exact rfl) (by exact rfl) (by exact rfl) (by simp) (by exact rfl) fun s9 _ h9 => ?_
  have hbody : s9.xs = a.body := by rw [h9, h8, h7, ht2, h5, ht1, h3, h2, h1, h0, body_parts]
  refine r_assign (k := ?_)
  refine sl_nil ?_
  refine sp_then ?_
  refine sw_seq ?_
  refine sw_region ?_
  refine r_move (k := ?_)
  refine r_call1 (c_r2fill GW s9 (by rw [hbody, hbl]; omega)) (by exact rfl) (by exact rfl) (by exact rfl) (by simp) (by exact rfl) ?_
  have hfill : s9.xs ++ zeros (256 - s9.xs.length) = padTo 248 a.body ++ zeros 8 := by
    have hz : zeros (256 - a.body.length) = zeros (248 - a.body.length) ++ zeros 8 := by
      rw [zeros, zeros, zeros, List.replicate_append_replicate, show 248 - a.body.length + 8 = 256 - a.body.length by omega]
    rw [hbody, hz, padTo_le 248 _ (by omega), List.append_assoc]
  rw [hfill]
  have hfl : (bv (padTo 248 a.body ++ zeros 8)).length = 256 := by simp [bv, padTo_len, zeros]
  refine r_move (k := ?_)
  refine r_ext (k := ?_)
  refine r_ext (k := ?_)
  refine r_alloc (by exact z37) (cs := bv (zeros 256)) (by kernel_rfl) (by exact rfl) fun b5 => ?_
  refine r_store_all (cs := bv (zeros 256)) (vs := bv (padTo 248 a.body ++ zeros 8)) (by exact tz rfl) (by exact rfl) (by exact rfl) (by first | exact .hd | exact .tl (.hd) | exact .tl (.tl (.hd)) | exact .tl (.tl (.tl (.hd))) | exact .tl (.tl (.tl (.tl (.hd)))) | exact .tl (.tl (.tl (.tl (.tl (.hd))))) | exact .tl (.tl (.tl (.tl (.tl (.tl (.hd)))))) | exact .tl (.tl (.tl (.tl (.tl (.tl (.tl (.hd))))))) | exact .tl (.tl (.tl (.tl (.tl (.tl (.tl (.tl (.hd)))))))) | exact .tl (.tl (.tl (.tl (.tl (.tl (.tl (.tl (.tl (.hd))))))))) | exact .tl (.tl (.tl (.tl (.tl (.tl (.tl (.tl (.tl (.tl (.hd)))))))))) | exact .tl (.tl (.tl (.tl (.tl (.tl (.tl (.tl (.tl (.tl (.tl (.hd)))))))))))) rfl hfl (bv_one _) rfl ?_
  refine r_assign (k := ?_)
  refine sl_nil ?_
  refine sp_then ?_
  refine sw_seq ?_
  refine sw_region ?_
  refine r_cut_arr (l := 0) (h := 248) (len := 256) (by exact ta rfl) (by exact rfl) rfl ⟨_, rfl⟩ (by omega) (by omega) (by omega) (by exact rfl) ?_
  refine r_re (t := 66) (v' := (p248 b5 a.body).v) rfl (p248_v b5 a.body).symm ?_
  refine r_lit (vs := [(p248 b5 a.body).v]) (xs := [.tmp 66]) (cells := [(p248 b5 a.body).v]) (by exact tl rfl) (by exact z28) (by exact rfl) (by exact rfl) (by intro v hv; simp at hv; subst hv; rfl) (by decide) (by decide) (by exact rfl) (by exact rfl) (by exact rfl) fun q => ?_
  refine o_row fun ba cap e _ _ _ => ?_
  cases e
  refine r_call1L (c_r1sum GW (some ⟨q, 0, none⟩) 1 [p248 b5 a.body] (by intro p hp; simp at hp; subst hp; exact p248_ok _ _) (by simp [maxLen])) [.box b5 (bv (padTo 248 a.body ++ zeros 8)) 37] (by exact rfl) (by exact rfl) (by exact rfl) ?_ ?_ (by exact rfl) ?_
  · exact .cons_cons _ (List.nil_sublist _)
  · intro φ hφ
    simp at hφ
    rcases hφ with rfl | rfl
    · exact lent_of (.head _)
    · intro V w hh hv hw p hp
      simp at hp
      subst hp
      have := lent_box (Φ := []) (l := 0) (n := 248) (List.Mem.head (a := Own.box b5 (bv (padTo 248 a.body ++ zeros 8)) 37) []) V w hh hv (by simp)
      rw [bv_cut, List.drop_zero, List.take_left' (padTo_len 248 a.body)] at this
      exact this
  have es : flat [p248 b5 a.body] = padTo 248 a.body := by simp [flat, p248]
  rw [es]
  refine f_have (φ := BS.nil.res) (fun V w hw => nil_res) ?_
  refine r_callB (c_r2put GW BS.nil (sum (padTo 248 a.body)) 8 (by decide) (by decide) (by decide)) (by exact rfl) (by exact rfl) (by exact rfl) (by simp) (by exact rfl) fun r hr hxr => ?_
  have hxr : r.xs = le 8 (sum (padTo 248 a.body)) := hxr
  have hrl : r.xs.length = 8 := by rw [hxr, le_length]
  refine r_assign (k := ?_)
  refine sl_nil ?_
  refine sp_then ?_
  refine sw_seq ?_
  refine sw_region ?_
  refine r_cut_arr (l := 248) (h := 256) (len := 256) (by exact ta rfl) (by exact rfl) ⟨_, rfl⟩ rfl (by omega) (by omega) (by omega) (by exact rfl) ?_
  refine r_move (k := ?_)
  refine r_copy (nn := 8) (news := bv r.xs) (cur := bv (padTo 248 a.body ++ zeros 8)) (cur' := bv a.page) (by exact tl rfl) (by exact rfl) (by exact rfl) (by first | exact .head _ | exact .tail _ (.head _) | exact .tail _ (.tail _ (.head _)) | exact .tail _ (.tail _ (.tail _ (.head _))) | exact .tail _ (.tail _ (.tail _ (.tail _ (.head _)))) | exact .tail _ (.tail _ (.tail _ (.tail _ (.tail _ (.head _))))) | exact .tail _ (.tail _ (.tail _ (.tail _ (.tail _ (.tail _ (.head _)))))) | exact .tail _ (.tail _ (.tail _ (.tail _ (.tail _ (.tail _ (.tail _ (.head _))))))) | exact .tail _ (.tail _ (.tail _ (.tail _ (.tail _ (.tail _ (.tail _ (.tail _ (.head _)))))))) | exact .tail _ (.tail _ (.tail _ (.tail _ (.tail _ (.tail _ (.tail _ (.tail _ (.tail _ (.head _))))))))) | exact .tail _ (.tail _ (.tail _ (.tail _ (.tail _ (.tail _ (.tail _ (.tail _ (.tail _ (.tail _ (.head _)))))))))) | exact .tail _ (.tail _ (.tail _ (.tail _ (.tail _ (.tail _ (.tail _ (.tail _ (.tail _ (.tail _ (.tail _ (.head _)))))))))))) (by rw [hrl]; rfl) (by rw [bv_len, hrl]; exact Nat.le_refl _) (by simp [bv, zeros, padTo_len]) (bv_one _) ?_ (by first | exact .hd | exact .tl (.hd) | exact .tl (.tl (.hd)) | exact .tl (.tl (.tl (.hd))) | exact .tl (.tl (.tl (.tl (.hd)))) | exact .tl (.tl (.tl (.tl (.tl (.hd))))) | exact .tl (.tl (.tl (.tl (.tl (.tl (.hd)))))) | exact .tl (.tl (.tl (.tl (.tl (.tl (.tl (.hd))))))) | exact .tl (.tl (.tl (.tl (.tl (.tl (.tl (.tl (.hd)))))))) | exact .tl (.tl (.tl (.tl (.tl (.tl (.tl (.tl (.tl (.hd))))))))) | exact .tl (.tl (.tl (.tl (.tl (.tl (.tl (.tl (.tl (.tl (.hd)))))))))) | exact .tl (.tl (.tl (.tl (.tl (.tl (.tl (.tl (.tl (.tl (.tl (.hd)))))))))))) (by exact rfl) ?_
  · rw [List.take_of_length_le (by rw [bv_len, hrl]; exact Nat.le_refl _), show 248 * 1 = 248 from rfl, splice_bv]
    exact congrArg bv (by rw [page_splice _ _ hrl, hxr]; rfl)
  have hpl : (bv a.page).length = 256 := by rw [bv_len]; exact page_len a
  refine sl_nil ?_
  refine sp_then ?_
  refine sw_seq ?_
  refine sw_region ?_
  refine r_load_all (cs := bv a.page) (by exact tz rfl) (by exact rfl) (by first | exact .head _ | exact .tail _ (.head _) | exact .tail _ (.tail _ (.head _)) | exact .tail _ (.tail _ (.tail _ (.head _))) | exact .tail _ (.tail _ (.tail _ (.tail _ (.head _)))) | exact .tail _ (.tail _ (.tail _ (.tail _ (.tail _ (.head _))))) | exact .tail _ (.tail _ (.tail _ (.tail _ (.tail _ (.tail _ (.head _)))))) | exact .tail _ (.tail _ (.tail _ (.tail _ (.tail _ (.tail _ (.tail _ (.head _))))))) | exact .tail _ (.tail _ (.tail _ (.tail _ (.tail _ (.tail _ (.tail _ (.tail _ (.head _)))))))) | exact .tail _ (.tail _ (.tail _ (.tail _ (.tail _ (.tail _ (.tail _ (.tail _ (.tail _ (.head _))))))))) | exact .tail _ (.tail _ (.tail _ (.tail _ (.tail _ (.tail _ (.tail _ (.tail _ (.tail _ (.tail _ (.head _)))))))))) | exact .tail _ (.tail _ (.tail _ (.tail _ (.tail _ (.tail _ (.tail _ (.tail _ (.tail _ (.tail _ (.tail _ (.head _)))))))))))) hpl (by exact rfl) ?_
  refine r_store_all (cs := bv (zeros 256)) (vs := bv a.page) (by exact tz rfl) (by exact rfl) (by exact rfl) (by first | exact .hd | exact .tl (.hd) | exact .tl (.tl (.hd)) | exact .tl (.tl (.tl (.hd))) | exact .tl (.tl (.tl (.tl (.hd)))) | exact .tl (.tl (.tl (.tl (.tl (.hd))))) | exact .tl (.tl (.tl (.tl (.tl (.tl (.hd)))))) | exact .tl (.tl (.tl (.tl (.tl (.tl (.tl (.hd))))))) | exact .tl (.tl (.tl (.tl (.tl (.tl (.tl (.tl (.hd)))))))) | exact .tl (.tl (.tl (.tl (.tl (.tl (.tl (.tl (.tl (.hd))))))))) | exact .tl (.tl (.tl (.tl (.tl (.tl (.tl (.tl (.tl (.tl (.hd)))))))))) | exact .tl (.tl (.tl (.tl (.tl (.tl (.tl (.tl (.tl (.tl (.tl (.hd)))))))))))) rfl hpl (bv_one _) rfl ?_
  refine r_assign (k := ?_)
  refine sl_nil ?_
  refine sp_then ?_
  refine sw_ret ?_
  refine sp_ret2 rfl rfl (.agg rfl (tz rfl) hpl (.tail _ (.head _))) (.tmp rfl) rfl rfl ⟨rfl, rfl, rfl⟩ (by simp) rfl (by simp)
end Go.Proofs.YtjahiohlekdhoaaDoor
