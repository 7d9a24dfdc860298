/-
  The walk of anchor.Newest.
-/
import Derived.Test.YtjahiohlekdhoaaDoorAnchor
namespace Go.Proofs.YtjahiohlekdhoaaDoor
open Go
set_option maxHeartbeats 4000000
set_option maxRecDepth 4000
attribute [local irreducible] SW SL SP RA Then FQ IQ LoopQ RQ AQ NX CutQ Exit.noGoto

def ancsV (L : List AncV) : List Value := L.flatMap AncV.cs
theorem ancsV_len (L : List AncV) : (ancsV L).length = L.length * 14 := by
  induction L with
  | nil => rfl
  | cons a l ih => simp only [ancsV, List.flatMap_cons, List.length_append, List.length_cons] at ih ⊢; rw [ih]; simp [AncV.cs]; omega
theorem ancsV_drop : ∀ (L : List AncV) (i : Nat), (ancsV L).drop (i * 14) = ancsV (L.drop i)
  | [], i => by simp [ancsV]
  | a :: l, 0 => by simp
  | a :: l, i + 1 => by
    have h : (i + 1) * 14 = a.cs.length + i * 14 := by simp [AncV.cs]; omega
    rw [h, ← List.drop_drop]
    show List.drop (i * 14) (List.drop a.cs.length (a.cs ++ ancsV l)) = _
    rw [List.drop_left, ancsV_drop l i]; rfl
theorem ancsV_at (L : List AncV) (i : Nat) (h : i < L.length) : part' (ancsV L) (i * 14) 14 = L[i].cs := by
  rw [part', ancsV_drop, drop_cons L i h]
  show List.take L[i].cs.length (L[i].cs ++ ancsV (L.drop (i + 1))) = _
  rw [List.take_left]
theorem ancsV_tx (L : List AncV) (i : Nat) (h : i < L.length) : (ancsV L)[i * 14]? = some (v32 L[i].tx) := by
  have h1 := ancsV_at L i h
  have h2 : (part' (ancsV L) (i * 14) 14)[0]? = some (v32 L[i].tx) := by rw [h1]; rfl
  have := (part'_get h2).2
  simpa using this

/-- The place of the newest of the first ones. -/
def newI (L : List AncV) : Nat → Int
  | 0 => -1
  | i + 1 => if newI L i < 0 then (i : Int) else if (((L[(newI L i).toNat]?).map (·.tx.toNat)).getD 0 : Int) < (((L[i]?).map (·.tx.toNat)).getD 0 : Int) then (i : Int) else newI L i
theorem newI_bound (L : List AncV) : ∀ i, -1 ≤ newI L i ∧ newI L i < i
  | 0 => by simp [newI]
  | i + 1 => by
    have := newI_bound L i
    unfold newI
    split
    · omega
    · split <;> omega

theorem c_newest (G : Res) (ba : Option Addr) (cap : Nat) (L : List AncV) (hn : L.length ≤ maxLen) : Ctr Tryd.prog G 18 [.slice ba L.length cap] [] [Res.mem ba (ancsV L)] (ret1 (vi (newI L L.length))) := by
  have hn' : L.length ≤ 9223372036854775807 := hn
  have hal := ancsV_len L
  refine Ctr.intro Tryd.func18 (by kernel_rfl) rfl Tryd.ntmps18 rfl rfl rfl fun w X => ?_
  refine sw_seq ?_
  refine sw_region ?_
  refine r_assign (k := ?_)
  refine sl_nil ?_
  refine sp_then ?_
  refine sw_seq ?_
  refine sw_region ?_
  refine r_assign (k := ?_)
  refine sl_nil ?_
  refine sp_then ?_
  refine sw_seq ?_
  refine sw_seq ?_
  refine sw_region ?_
  refine r_move (k := ?_)
  refine r_len (k := ?_)
  refine r_move (k := ?_)
  refine sl_nil ?_
  refine sp_then ?_
  refine sw_block ?_
  refine sw_loop (ι := { i : Nat // i ≤ L.length }) (fun i => [(0, .slice ba L.length cap), (2, vi (newI L i.1)), (5, .slice ba L.length cap), (6, vi (L.length : Int)), (7, vi (i.1 : Int))]) (fun _ => []) (fun _ => [Res.mem ba (ancsV L)]) (fun _ => []) (fun i => L.length - i.1) ⟨0, by omega⟩ ?_ fun i => ?_
  · exact Ent.mk' (by repeat' (first | trivial | exact rfl | apply And.intro)) (by repeat' (first | trivial | exact .head _ | exact .tail _ (.head _) | exact .tail _ (.tail _ (.head _)) | exact .tail _ (.tail _ (.tail _ (.head _))) | exact .tail _ (.tail _ (.tail _ (.tail _ (.head _)))) | exact .tail _ (.tail _ (.tail _ (.tail _ (.tail _ (.head _))))) | exact .tail _ (.tail _ (.tail _ (.tail _ (.tail _ (.tail _ (.head _)))))) | exact .tail _ (.tail _ (.tail _ (.tail _ (.tail _ (.tail _ (.tail _ (.head _))))))) | exact .tail _ (.tail _ (.tail _ (.tail _ (.tail _ (.tail _ (.tail _ (.tail _ (.head _)))))))) | exact .tail _ (.tail _ (.tail _ (.tail _ (.tail _ (.tail _ (.tail _ (.tail _ (.tail _ (.head _))))))))) | exact .tail _ (.tail _ (.tail _ (.tail _ (.tail _ (.tail _ (.tail _ (.tail _ (.tail _ (.tail _ (.head _)))))))))) | exact .tail _ (.tail _ (.tail _ (.tail _ (.tail _ (.tail _ (.tail _ (.tail _ (.tail _ (.tail _ (.tail _ (.head _))))))))))) | apply And.intro))
  obtain ⟨i, hi⟩ := i
  dsimp only
  refine sw_seq ?_
  refine sw_region ?_
  refine r_lss (k := ?_)
  refine sl_nil ?_
  refine sp_then ?_
  refine sw_seq ?_
  refine sw_cond rfl (fun h => ?_) (fun h => ?_)
  · have h := of_decide_eq_true h
    have hi' : i < L.length := by omega
    have hbd := newI_bound L i
    refine sw_skip ?_
    refine sp_then ?_
    refine sw_seq ?_
    refine sw_block ?_
    refine sw_seq ?_
    refine sw_region ?_
    refine r_move (k := ?_)
    refine r_idx (by exact tl rfl) (by exact rfl) (by exact rfl) (by omega) (by omega) (by first | exact .head _ | exact .tail _ (.head _) | exact .tail _ (.tail _ (.head _)) | exact .tail _ (.tail _ (.tail _ (.head _))) | exact .tail _ (.tail _ (.tail _ (.tail _ (.head _)))) | exact .tail _ (.tail _ (.tail _ (.tail _ (.tail _ (.head _))))) | exact .tail _ (.tail _ (.tail _ (.tail _ (.tail _ (.tail _ (.head _)))))) | exact .tail _ (.tail _ (.tail _ (.tail _ (.tail _ (.tail _ (.tail _ (.head _))))))) | exact .tail _ (.tail _ (.tail _ (.tail _ (.tail _ (.tail _ (.tail _ (.tail _ (.head _)))))))) | exact .tail _ (.tail _ (.tail _ (.tail _ (.tail _ (.tail _ (.tail _ (.tail _ (.tail _ (.head _))))))))) | exact .tail _ (.tail _ (.tail _ (.tail _ (.tail _ (.tail _ (.tail _ (.tail _ (.tail _ (.tail _ (.head _)))))))))) | exact .tail _ (.tail _ (.tail _ (.tail _ (.tail _ (.tail _ (.tail _ (.tail _ (.tail _ (.tail _ (.tail _ (.head _)))))))))))) (by omega) (by exact rfl) (by exact Int.toNat_natCast _) (by exact rfl) ?_
    refine r_load_mem (vs := L[i].cs) (by exact tz rfl) (by exact rfl) (by first | exact .head _ | exact .tail _ (.head _) | exact .tail _ (.tail _ (.head _)) | exact .tail _ (.tail _ (.tail _ (.head _))) | exact .tail _ (.tail _ (.tail _ (.tail _ (.head _)))) | exact .tail _ (.tail _ (.tail _ (.tail _ (.tail _ (.head _))))) | exact .tail _ (.tail _ (.tail _ (.tail _ (.tail _ (.tail _ (.head _)))))) | exact .tail _ (.tail _ (.tail _ (.tail _ (.tail _ (.tail _ (.tail _ (.head _))))))) | exact .tail _ (.tail _ (.tail _ (.tail _ (.tail _ (.tail _ (.tail _ (.tail _ (.head _)))))))) | exact .tail _ (.tail _ (.tail _ (.tail _ (.tail _ (.tail _ (.tail _ (.tail _ (.tail _ (.head _))))))))) | exact .tail _ (.tail _ (.tail _ (.tail _ (.tail _ (.tail _ (.tail _ (.tail _ (.tail _ (.tail _ (.head _)))))))))) | exact .tail _ (.tail _ (.tail _ (.tail _ (.tail _ (.tail _ (.tail _ (.tail _ (.tail _ (.tail _ (.tail _ (.head _)))))))))))) (ancsV_at L i hi') rfl rfl (by exact rfl) ?_
    refine r_alloc (by exact z32) (by exact rfl) (by exact rfl) fun b4 => ?_
    refine r_assign (k := ?_)
    refine r_store_all (k := ?_)
    refine sl_nil ?_
    refine sp_then ?_
    refine sw_seq ?_
    refine sw_draw [(none, .box b4 L[i].cs 32)] [Res.mem ba (ancsV L)] [0, 1, 2, 3, 4, 5, 6, 7, 8, 9, 10, 11] mix (by kernel_rfl) rfl ?_
    refine ra_first 0 [] [1, 2, 3, 4, 5, 6, 7, 8, 9, 10, 11] (hq := by exact q_move) (k := ?_)
    refine ra_first 1 [] [2, 3, 4, 5, 6, 7, 8, 9, 10, 11] (hq := by exact q_lss) (k := ?_)
    refine ra_first 2 [] [3, 4, 5, 6, 7, 8, 9, 10, 11] (hq := by exact q_move) (k := ?_)
    
    refine ra_part (t := 14) rfl (fun hat => ?_) (fun hat => ?_)
    · have hat := of_decide_eq_true hat
      have e : newI L (i + 1) = (i : Int) := by rw [newI, if_pos hat]
      refine ra_skip 3 [4, 5, 6, 7, 8, 9, 10, 11] (k := ?_)
      refine ra_skip 4 [5, 6, 7, 8, 9, 10, 11] (k := ?_)
      refine ra_skip 5 [6, 7, 8, 9, 10, 11] (k := ?_)
      refine ra_skip 6 [7, 8, 9, 10, 11] (k := ?_)
      refine ra_skip 7 [8, 9, 10, 11] (k := ?_)
      refine ra_skip 8 [9, 10, 11] (k := ?_)
      refine ra_skip 9 [10, 11] (k := ?_)
      refine ra_skip 10 [11] (k := ?_)
      refine ra_first 11 [] [] (hq := by first | exact q_pick_t | exact q_pick_f) (k := ?_)
      refine ra_done ?_
      refine sp_then ?_
      refine swd_t (h := ?_)
      refine sw_region ?_
      refine r_move (k := ?_)
      refine r_assign (k := ?_)
      refine sl_nil ?_
      refine sp_block ?_
      refine sp_then ?_
      refine sw_region ?_
      refine r_add64 (k := ?_)
      refine r_move (k := ?_)
      refine sl_nil ?_
      refine sp_drop rfl ?_
      refine sp_re (t := 2) (v' := vi (newI L (i + 1))) rfl (by rw [e]) ?_
      refine sp_loop (ι := { i : Nat // i ≤ L.length }) ⟨i + 1, by omega⟩ ?_ ?_
      · dsimp only; omega
      · exact Ent.mk' (by repeat' (first | trivial | exact rfl | apply And.intro)) (by repeat' (first | trivial | exact .head _ | exact .tail _ (.head _) | exact .tail _ (.tail _ (.head _)) | exact .tail _ (.tail _ (.tail _ (.head _))) | exact .tail _ (.tail _ (.tail _ (.tail _ (.head _)))) | exact .tail _ (.tail _ (.tail _ (.tail _ (.tail _ (.head _))))) | exact .tail _ (.tail _ (.tail _ (.tail _ (.tail _ (.tail _ (.head _)))))) | exact .tail _ (.tail _ (.tail _ (.tail _ (.tail _ (.tail _ (.tail _ (.head _))))))) | exact .tail _ (.tail _ (.tail _ (.tail _ (.tail _ (.tail _ (.tail _ (.tail _ (.head _)))))))) | exact .tail _ (.tail _ (.tail _ (.tail _ (.tail _ (.tail _ (.tail _ (.tail _ (.tail _ (.head _))))))))) | exact .tail _ (.tail _ (.tail _ (.tail _ (.tail _ (.tail _ (.tail _ (.tail _ (.tail _ (.tail _ (.head _)))))))))) | exact .tail _ (.tail _ (.tail _ (.tail _ (.tail _ (.tail _ (.tail _ (.tail _ (.tail _ (.tail _ (.tail _ (.head _))))))))))) | apply And.intro))
    · have hat := of_decide_eq_false hat
      obtain ⟨j, hj⟩ : ∃ j : Nat, newI L i = (j : Int) := ⟨(newI L i).toNat, by omega⟩
      have hjl : j < L.length := by omega
      have hjt : (newI L i).toNat = j := by omega
      
      refine ra_firstg 3 [] [4, 5, 6, 7, 8, 9, 10, 11] (hq := by exact q_fieldAddr) (k := ?_)
      refine ra_firstg 4 [(none, .box b4 L[i].cs 32)] [5, 6, 7, 8, 9, 10, 11] (hq := by first | exact q_load_one | exact q_load_all | exact q_load_fr1 | exact q_load_fr) (k := ?_)
      refine ra_firstg 5 [] [6, 7, 8, 9, 10, 11] (hq := by exact q_move) (k := ?_)
      refine ra_firstg 6 [] [7, 8, 9, 10, 11] (hq := by exact q_move) (k := ?_)
      refine ra_firstg 7 [] [8, 9, 10, 11] (hq := by exact q_idx (i := j) (cs := ancsV L) (by exact tl rfl) (by exact rfl) (by exact rfl) (by omega) (by omega) (.head _) (by omega) (by exact rfl) hjt) (k := ?_)
      refine ra_firstg 8 [] [9, 10, 11] (hq := by exact q_fieldAddr_mem (o := j * 14) (cs := ancsV L) (by exact tf rfl rfl) (by exact rfl) (by exact rfl) (.head _) (by omega)) (k := ?_)
      refine ra_firstg 9 [] [10, 11] (hq := by exact q_load_mem1 (o := j * 14 + 0) (v := v32 L[j].tx) (cs := ancsV L) (by exact tz rfl) (by exact rfl) (.head _) (ancsV_tx L j hjl)) (k := ?_)
      refine ra_firstg 10 [] [11] (hq := by exact q_gtr) (k := ?_)
      refine ra_first 11 [] [] (hq := by first | exact q_pick_t | exact q_pick_f) (k := ?_)
      refine ra_done ?_
      have e : newI L (i + 1) = if (L[j].tx.toNat : Int) < (L[i].tx.toNat : Int) then (i : Int) else newI L i := by
        rw [newI, if_neg hat, hjt]
        simp [hjl, hi']
      refine sp_then ?_
      refine sw_cond rfl (fun h => ?_) (fun h => ?_)
      · have h := of_decide_eq_true h
        refine sw_region ?_
        refine r_move (k := ?_)
        refine r_assign (k := ?_)
        refine sl_nil ?_
        refine sp_block ?_
        refine sp_then ?_
        refine sw_region ?_
        refine r_add64 (k := ?_)
        refine r_move (k := ?_)
        refine sl_nil ?_
        refine sp_drop rfl ?_
        refine sp_re (t := 2) (v' := vi (newI L (i + 1))) rfl (by rw [e, if_pos h]) ?_
        refine sp_loop (ι := { i : Nat // i ≤ L.length }) ⟨i + 1, by omega⟩ ?_ ?_
        · dsimp only; omega
        · exact Ent.mk' (by repeat' (first | trivial | exact rfl | apply And.intro)) (by repeat' (first | trivial | exact .head _ | exact .tail _ (.head _) | exact .tail _ (.tail _ (.head _)) | exact .tail _ (.tail _ (.tail _ (.head _))) | exact .tail _ (.tail _ (.tail _ (.tail _ (.head _)))) | exact .tail _ (.tail _ (.tail _ (.tail _ (.tail _ (.head _))))) | exact .tail _ (.tail _ (.tail _ (.tail _ (.tail _ (.tail _ (.head _)))))) | exact .tail _ (.tail _ (.tail _ (.tail _ (.tail _ (.tail _ (.tail _ (.head _))))))) | exact .tail _ (.tail _ (.tail _ (.tail _ (.tail _ (.tail _ (.tail _ (.tail _ (.head _)))))))) | exact .tail _ (.tail _ (.tail _ (.tail _ (.tail _ (.tail _ (.tail _ (.tail _ (.tail _ (.head _))))))))) | exact .tail _ (.tail _ (.tail _ (.tail _ (.tail _ (.tail _ (.tail _ (.tail _ (.tail _ (.tail _ (.head _)))))))))) | exact .tail _ (.tail _ (.tail _ (.tail _ (.tail _ (.tail _ (.tail _ (.tail _ (.tail _ (.tail _ (.tail _ (.head _))))))))))) | apply And.intro))
      · have h := of_decide_eq_false h
        refine sw_skip ?_
        refine sp_block ?_
        refine sp_then ?_
        refine sw_region ?_
        refine r_add64 (k := ?_)
        refine r_move (k := ?_)
        refine sl_nil ?_
        refine sp_drop rfl ?_
        refine sp_re (t := 2) (v' := vi (newI L (i + 1))) rfl (by rw [e, if_neg h]) ?_
        refine sp_loop (ι := { i : Nat // i ≤ L.length }) ⟨i + 1, by omega⟩ ?_ ?_
        · dsimp only; omega
        · exact Ent.mk' (by repeat' (first | trivial | exact rfl | apply And.intro)) (by repeat' (first | trivial | exact .head _ | exact .tail _ (.head _) | exact .tail _ (.tail _ (.head _)) | exact .tail _ (.tail _ (.tail _ (.head _))) | exact .tail _ (.tail _ (.tail _ (.tail _ (.head _)))) | exact .tail _ (.tail _ (.tail _ (.tail _ (.tail _ (.head _))))) | exact .tail _ (.tail _ (.tail _ (.tail _ (.tail _ (.tail _ (.head _)))))) | exact .tail _ (.tail _ (.tail _ (.tail _ (.tail _ (.tail _ (.tail _ (.head _))))))) | exact .tail _ (.tail _ (.tail _ (.tail _ (.tail _ (.tail _ (.tail _ (.tail _ (.head _)))))))) | exact .tail _ (.tail _ (.tail _ (.tail _ (.tail _ (.tail _ (.tail _ (.tail _ (.tail _ (.head _))))))))) | exact .tail _ (.tail _ (.tail _ (.tail _ (.tail _ (.tail _ (.tail _ (.tail _ (.tail _ (.tail _ (.head _)))))))))) | exact .tail _ (.tail _ (.tail _ (.tail _ (.tail _ (.tail _ (.tail _ (.tail _ (.tail _ (.tail _ (.tail _ (.head _))))))))))) | apply And.intro))
  · have h := of_decide_eq_false h
    obtain rfl : i = L.length := by omega
    refine sw_exit ?_
    refine sp_then_exit ?_
    refine sp_loop_exit ?_
    refine sp_block_exit ?_
    refine sp_then ?_
    refine sw_seq ?_
    refine sw_region ?_
    refine r_move (k := ?_)
    refine r_assign (k := ?_)
    refine sl_nil ?_
    refine sp_then ?_
    refine sw_ret ?_
    refine sp_retv rfl rfl (.tmp rfl) rfl rfl ⟨rfl, rfl, rfl⟩ (by simp) rfl (by simp)
end Go.Proofs.YtjahiohlekdhoaaDoor
