/-
  The walks of package pack, the rest: bytes put and taken.
-/
import Derived.Test.YtjahiohlekdhoaaDoorCrc
import Derived.Test.YtjahiohlekdhoaaDoorPack
namespace Go.Proofs.YtjahiohlekdhoaaDoor
open Go
set_option maxHeartbeats 4000000
set_option maxRecDepth 4000
attribute [local irreducible] SW SL SP RA Then FQ IQ LoopQ RQ AQ NX CutQ Exit.noGoto

theorem c_grow (G : Res) (n : Nat) (hn : n ≤ 140737488355328) : Ctr Tryd.prog G 109 [.slice none 0 0, vi (n : Int)] [] [] (retR 5 []) := by
  refine Ctr.intro Tryd.func109 (by kernel_rfl) rfl Tryd.ntmps109 rfl rfl rfl fun w X => ?_
  refine sw_seq ?_
  refine sw_region ?_
  refine r_assign (k := ?_)
  refine sl_nil ?_
  refine sp_then ?_
  refine sw_seq ?_
  refine sw_seq ?_
  refine sw_region ?_
  refine r_move (k := ?_)
  refine r_lss (k := ?_)
  refine sl_nil ?_
  refine sp_then ?_
  refine sw_cond rfl (fun h => ?_) (fun h => ?_)
  · have h := of_decide_eq_true h
    exact absurd h (by omega)
  refine sw_skip ?_
  refine sp_then ?_
  refine sw_seq ?_
  refine sw_seq ?_
  refine sw_region ?_
  refine r_move (k := ?_)
  refine r_move (k := ?_)
  refine r_cap (k := ?_)
  refine r_move (k := ?_)
  refine r_len (k := ?_)
  refine r_sub64 (k := ?_)
  refine r_sub64 (k := ?_)
  refine r_assign (k := ?_)
  refine sl_nil ?_
  refine sp_then ?_
  refine sw_seq ?_
  refine sw_region ?_
  refine r_move (k := ?_)
  refine r_gtr (k := ?_)
  refine sl_nil ?_
  refine sp_then ?_
  refine w_re (t := 16) (v' := vb (decide (0 < n))) rfl (by simp) ?_
  refine w_re (t := 1) (v' := vi n) rfl (by simp) ?_
  refine sw_cond rfl (fun h => ?_) (fun h => ?_)
  · have h := of_decide_eq_true h
    refine sw_region ?_
    refine r_move (k := ?_)
    refine r_move (k := ?_)
    refine r_cap (k := ?_)
    refine f_have (φ := Res.mem none []) (fun V w _ i v hv => by simp at hv) ?_
    refine r_cut (l := 0) (h := 0) (ba := none) (cs := []) (by exact tl rfl) (by exact rfl) (by first | exact .head _ | exact .tail _ (.head _) | exact .tail _ (.tail _ (.head _)) | exact .tail _ (.tail _ (.tail _ (.head _))) | exact .tail _ (.tail _ (.tail _ (.tail _ (.head _)))) | exact .tail _ (.tail _ (.tail _ (.tail _ (.tail _ (.head _))))) | exact .tail _ (.tail _ (.tail _ (.tail _ (.tail _ (.tail _ (.head _)))))) | exact .tail _ (.tail _ (.tail _ (.tail _ (.tail _ (.tail _ (.tail _ (.head _))))))) | exact .tail _ (.tail _ (.tail _ (.tail _ (.tail _ (.tail _ (.tail _ (.tail _ (.head _)))))))) | exact .tail _ (.tail _ (.tail _ (.tail _ (.tail _ (.tail _ (.tail _ (.tail _ (.tail _ (.head _))))))))) | exact .tail _ (.tail _ (.tail _ (.tail _ (.tail _ (.tail _ (.tail _ (.tail _ (.tail _ (.tail _ (.head _)))))))))) | exact .tail _ (.tail _ (.tail _ (.tail _ (.tail _ (.tail _ (.tail _ (.tail _ (.tail _ (.tail _ (.tail _ (.head _)))))))))))) rfl ⟨_, rfl⟩ (by omega) (by omega) (by omega) (by exact rfl) ?_
    refine r_re (t := 20) (v' := .slice none 0 0) rfl (by simp [cutBase]) ?_
    refine r_move (k := ?_)
    refine r_growNil (nn := n) (z0 := .int .u8 0) (by exact tl rfl) (by exact ti rfl) (by exact z5) (by exact rfl) (by exact rfl) h hn (by exact rfl) (by exact rfl) fun v zs hz => ?_
    refine r_move (k := ?_)
    refine r_len (k := ?_)
    refine r_row_cut (kq := 0) (by exact tl rfl) (by exact rfl) (by exact rfl) (by omega) h (by exact rfl) fun v' h1 h2 => ?_
    refine r_assign (k := ?_)
    refine sl_nil ?_
    refine sp_then ?_
    refine sw_seq ?_
    refine sw_region ?_
    refine r_move (k := ?_)
    refine r_assign (k := ?_)
    refine sl_nil ?_
    refine sp_then ?_
    refine sw_ret ?_
    refine sp_eqB (B' := [.row v' ([] : List UInt8).length (bv []) 5 1]) (by simp [bv]) ?_
    refine sp_retv rfl rfl (.tmp rfl) rfl rfl ⟨h1, h2, rfl, rfl⟩ (List.Sublist.refl _) rfl (by simp)
  · refine sw_skip ?_
    refine sp_then ?_
    refine sw_seq ?_
    refine sw_region ?_
    refine r_move (k := ?_)
    refine r_assign (k := ?_)
    refine sl_nil ?_
    refine sp_then ?_
    refine sw_ret ?_
    refine sp_nil 5 1 ?_
    refine sp_retv rfl rfl (.tmp rfl) rfl rfl ⟨rfl, rfl, rfl, rfl⟩ (List.Sublist.refl _) rfl (by simp)

theorem flat_take (ps : List BS) (i : Nat) (h : i < ps.length) : flat (ps.take (i + 1)) = flat (ps.take i) ++ ps[i].xs := by
  rw [List.take_succ_eq_append_getElem h, flat, flat, List.flatMap_append]; simp
theorem flat_take_le (ps : List BS) (i : Nat) : (flat (ps.take i)).length ≤ (flat ps).length := by
  conv => rhs; rw [← List.take_append_drop i ps, flat, List.flatMap_append, List.length_append]
  exact Nat.le_add_right _ _

theorem c_concat (G : Res) (ba : Option Addr) (cap : Nat) (ps : List BS) (hok : ∀ p ∈ ps, p.ok) (hn : ps.length ≤ maxLen) (hl : (flat ps).length ≤ 1099511627776) : Ctr Tryd.prog G 85 [.slice ba ps.length cap] [] [Res.mem ba (partsV ps), Res.all ps BS.res] (retR 5 (flat ps)) := by
  have hn' : ps.length ≤ 9223372036854775807 := hn
  refine Ctr.intro Tryd.func85 (by kernel_rfl) rfl Tryd.ntmps85 rfl rfl rfl fun w X => ?_
  refine sw_seq ?_
  refine sw_region ?_
  refine r_assign (k := ?_)
  refine sl_nil ?_
  refine sp_then ?_
  refine sw_seq ?_
  refine sw_region ?_
  refine r_assign (k := ?_)
  refine sl_nil ?_
  refine sp_then ?_
  refine sw_seq ?_
  refine sw_seq ?_
  refine sw_region ?_
  refine r_move (k := ?_)
  refine r_len (k := ?_)
  refine r_move (k := ?_)
  refine sl_nil ?_
  refine sp_then ?_
  refine sw_block ?_
  refine sw_loop (ι := { i : Nat // i ≤ ps.length }) (fun i => [(0, .slice ba ps.length cap), (3, vi ((flat (ps.take i.1)).length : Int)), (9, .slice ba ps.length cap), (10, vi (ps.length : Int)), (11, vi (i.1 : Int))]) (fun _ => []) (fun _ => [Res.mem ba (partsV ps), Res.all ps BS.res]) (fun _ => []) (fun i => ps.length - i.1) ⟨0, by omega⟩ ?_ fun i => ?_
  · exact Ent.mk' (by repeat' (first | trivial | exact rfl | apply And.intro)) (by repeat' (first | trivial | exact .head _ | exact .tail _ (.head _) | exact .tail _ (.tail _ (.head _)) | exact .tail _ (.tail _ (.tail _ (.head _))) | exact .tail _ (.tail _ (.tail _ (.tail _ (.head _)))) | exact .tail _ (.tail _ (.tail _ (.tail _ (.tail _ (.head _))))) | exact .tail _ (.tail _ (.tail _ (.tail _ (.tail _ (.tail _ (.head _)))))) | exact .tail _ (.tail _ (.tail _ (.tail _ (.tail _ (.tail _ (.tail _ (.head _))))))) | exact .tail _ (.tail _ (.tail _ (.tail _ (.tail _ (.tail _ (.tail _ (.tail _ (.head _)))))))) | exact .tail _ (.tail _ (.tail _ (.tail _ (.tail _ (.tail _ (.tail _ (.tail _ (.tail _ (.head _))))))))) | exact .tail _ (.tail _ (.tail _ (.tail _ (.tail _ (.tail _ (.tail _ (.tail _ (.tail _ (.tail _ (.head _)))))))))) | exact .tail _ (.tail _ (.tail _ (.tail _ (.tail _ (.tail _ (.tail _ (.tail _ (.tail _ (.tail _ (.tail _ (.head _))))))))))) | apply And.intro))
  · obtain ⟨i, hi⟩ := i
    dsimp only
    refine sw_seq ?_
    refine sw_region ?_
    refine r_lss (k := ?_)
    refine sl_nil ?_
    refine sp_then ?_
    refine sw_seq ?_
    refine sw_cond rfl (fun h => ?_) (fun h => ?_)
    · have h := of_decide_eq_true h
      have hi' : i < ps.length := by omega
      have hk := (hok _ (List.getElem_mem hi'))
      have e1 := flat_take ps i hi'
      have e2 := flat_take_le ps (i + 1)
      have e3 : (flat (ps.take (i + 1))).length = (flat (ps.take i)).length + ps[i].xs.length := by rw [e1, List.length_append]
      refine sw_skip ?_
      refine sp_then ?_
      refine sw_seq ?_
      refine sw_block ?_
      refine sw_seq ?_
      refine sw_region ?_
      refine r_idx (by exact tl rfl) (by exact rfl) (by exact rfl) (by omega) (by omega) (by first | exact .head _ | exact .tail _ (.head _) | exact .tail _ (.tail _ (.head _)) | exact .tail _ (.tail _ (.tail _ (.head _))) | exact .tail _ (.tail _ (.tail _ (.tail _ (.head _)))) | exact .tail _ (.tail _ (.tail _ (.tail _ (.tail _ (.head _))))) | exact .tail _ (.tail _ (.tail _ (.tail _ (.tail _ (.tail _ (.head _)))))) | exact .tail _ (.tail _ (.tail _ (.tail _ (.tail _ (.tail _ (.tail _ (.head _))))))) | exact .tail _ (.tail _ (.tail _ (.tail _ (.tail _ (.tail _ (.tail _ (.tail _ (.head _)))))))) | exact .tail _ (.tail _ (.tail _ (.tail _ (.tail _ (.tail _ (.tail _ (.tail _ (.tail _ (.head _))))))))) | exact .tail _ (.tail _ (.tail _ (.tail _ (.tail _ (.tail _ (.tail _ (.tail _ (.tail _ (.tail _ (.head _)))))))))) | exact .tail _ (.tail _ (.tail _ (.tail _ (.tail _ (.tail _ (.tail _ (.tail _ (.tail _ (.tail _ (.tail _ (.head _)))))))))))) (by simp [partsV]) (by exact rfl) (Int.toNat_natCast _) (by exact rfl) ?_
      refine r_load_mem1 (v := ps[i].v) (by exact tz rfl) (by exact rfl) (by first | exact .head _ | exact .tail _ (.head _) | exact .tail _ (.tail _ (.head _)) | exact .tail _ (.tail _ (.tail _ (.head _))) | exact .tail _ (.tail _ (.tail _ (.tail _ (.head _)))) | exact .tail _ (.tail _ (.tail _ (.tail _ (.tail _ (.head _))))) | exact .tail _ (.tail _ (.tail _ (.tail _ (.tail _ (.tail _ (.head _)))))) | exact .tail _ (.tail _ (.tail _ (.tail _ (.tail _ (.tail _ (.tail _ (.head _))))))) | exact .tail _ (.tail _ (.tail _ (.tail _ (.tail _ (.tail _ (.tail _ (.tail _ (.head _)))))))) | exact .tail _ (.tail _ (.tail _ (.tail _ (.tail _ (.tail _ (.tail _ (.tail _ (.tail _ (.head _))))))))) | exact .tail _ (.tail _ (.tail _ (.tail _ (.tail _ (.tail _ (.tail _ (.tail _ (.tail _ (.tail _ (.head _)))))))))) | exact .tail _ (.tail _ (.tail _ (.tail _ (.tail _ (.tail _ (.tail _ (.tail _ (.tail _ (.tail _ (.tail _ (.head _)))))))))))) (by simp [partsV, hi']) (by exact rfl) ?_
      refine r_assign (k := ?_)
      refine sl_nil ?_
      refine sp_then ?_
      refine sw_seq ?_
      refine sw_region ?_
      refine r_move (k := ?_)
      refine r_move (k := ?_)
      refine r_len (k := ?_)
      refine r_add64 (k := ?_)
      refine r_assign (k := ?_)
      refine sl_nil ?_
      refine sp_then ?_
      refine sw_seq ?_
      refine sw_region ?_
      refine r_move (k := ?_)
      refine r_lss (k := ?_)
      refine sl_nil ?_
      refine sp_then ?_
      refine w_re (t := 3) (v' := vi ((flat (ps.take (i + 1))).length : Int)) rfl (by rw [e3]; simp) ?_
      skip
      refine sw_cond rfl (fun h => ?_) (fun h => ?_)
      · have h := of_decide_eq_true h
        exact absurd h (by omega)
      refine sw_skip ?_
      refine sp_block ?_
      refine sp_then ?_
      refine sw_region ?_
      refine r_add64 (k := ?_)
      refine r_move (k := ?_)
      refine sl_nil ?_
      refine sp_loop (ι := { i : Nat // i ≤ ps.length }) ⟨i + 1, by omega⟩ ?_ ?_
      · dsimp only; omega
      · exact Ent.mk' (by repeat' (first | trivial | exact rfl | apply And.intro)) (by repeat' (first | trivial | exact .head _ | exact .tail _ (.head _) | exact .tail _ (.tail _ (.head _)) | exact .tail _ (.tail _ (.tail _ (.head _))) | exact .tail _ (.tail _ (.tail _ (.tail _ (.head _)))) | exact .tail _ (.tail _ (.tail _ (.tail _ (.tail _ (.head _))))) | exact .tail _ (.tail _ (.tail _ (.tail _ (.tail _ (.tail _ (.head _)))))) | exact .tail _ (.tail _ (.tail _ (.tail _ (.tail _ (.tail _ (.tail _ (.head _))))))) | exact .tail _ (.tail _ (.tail _ (.tail _ (.tail _ (.tail _ (.tail _ (.tail _ (.head _)))))))) | exact .tail _ (.tail _ (.tail _ (.tail _ (.tail _ (.tail _ (.tail _ (.tail _ (.tail _ (.head _))))))))) | exact .tail _ (.tail _ (.tail _ (.tail _ (.tail _ (.tail _ (.tail _ (.tail _ (.tail _ (.tail _ (.head _)))))))))) | exact .tail _ (.tail _ (.tail _ (.tail _ (.tail _ (.tail _ (.tail _ (.tail _ (.tail _ (.tail _ (.tail _ (.head _))))))))))) | apply And.intro))
    · have h := of_decide_eq_false h
      obtain rfl : i = ps.length := by omega
      rw [List.take_length]
      refine sw_exit ?_
      refine sp_then_exit ?_
      refine sp_loop_exit ?_
      refine sp_block_exit ?_
      refine sp_then ?_
      refine sw_seq ?_
      refine sw_region ?_
      refine r_move (k := ?_)
      refine r_callR (Bp := []) (Br := []) (c_grow G (flat ps).length (by omega)) (by exact rfl) (by exact rfl) (by exact rfl) (by simp) (by exact rfl) fun v h1 h2 => ?_
      refine r_assign (k := ?_)
      refine sl_nil ?_
      refine sp_then ?_
      refine sw_seq ?_
      refine sw_seq ?_
      refine sw_region ?_
      refine r_move (k := ?_)
      refine r_len (k := ?_)
      refine r_move (k := ?_)
      refine sl_nil ?_
      refine sp_then ?_
      refine sw_block ?_
      refine sw_loop (ι := { p : Nat × Value // p.1 ≤ ps.length ∧ p.2.cells = #[p.2] ∧ p.2.oneCell' = true }) (fun p => [(6, p.1.2), (25, .slice ba ps.length cap), (26, vi (ps.length : Int)), (27, vi (p.1.1 : Int))]) (fun p => [.row p.1.2 (flat (ps.take p.1.1)).length (bv (flat (ps.take p.1.1))) 5 1]) (fun _ => [Res.mem ba (partsV ps), Res.all ps BS.res]) (fun _ => []) (fun i => ps.length - i.1.1) ⟨(0, v), by simp, h1, h2⟩ ?_ fun i => ?_
      · exact Ent.mk' (by repeat' (first | trivial | exact rfl | apply And.intro)) (by repeat' (first | trivial | exact .head _ | exact .tail _ (.head _) | exact .tail _ (.tail _ (.head _)) | exact .tail _ (.tail _ (.tail _ (.head _))) | exact .tail _ (.tail _ (.tail _ (.tail _ (.head _)))) | exact .tail _ (.tail _ (.tail _ (.tail _ (.tail _ (.head _))))) | exact .tail _ (.tail _ (.tail _ (.tail _ (.tail _ (.tail _ (.head _)))))) | exact .tail _ (.tail _ (.tail _ (.tail _ (.tail _ (.tail _ (.tail _ (.head _))))))) | exact .tail _ (.tail _ (.tail _ (.tail _ (.tail _ (.tail _ (.tail _ (.tail _ (.head _)))))))) | exact .tail _ (.tail _ (.tail _ (.tail _ (.tail _ (.tail _ (.tail _ (.tail _ (.tail _ (.head _))))))))) | exact .tail _ (.tail _ (.tail _ (.tail _ (.tail _ (.tail _ (.tail _ (.tail _ (.tail _ (.tail _ (.head _)))))))))) | exact .tail _ (.tail _ (.tail _ (.tail _ (.tail _ (.tail _ (.tail _ (.tail _ (.tail _ (.tail _ (.tail _ (.head _))))))))))) | apply And.intro))
      obtain ⟨⟨i, v⟩, hi, h1, h2⟩ := i
      dsimp only at hi h1 h2 ⊢
      refine sw_seq ?_
      refine sw_region ?_
      refine r_lss (k := ?_)
      refine sl_nil ?_
      refine sp_then ?_
      refine sw_seq ?_
      refine sw_cond rfl (fun h => ?_) (fun h => ?_)
      · have h := of_decide_eq_true h
        have hi' : i < ps.length := by omega
        have hk := (hok _ (List.getElem_mem hi'))
        have e1 := flat_take ps i hi'
        have e2 := flat_take_le ps (i + 1)
        have e3 : (flat (ps.take (i + 1))).length = (flat (ps.take i)).length + ps[i].xs.length := by rw [e1, List.length_append]
        refine sw_skip ?_
        refine sp_then ?_
        refine sw_seq ?_
        refine sw_block ?_
        refine sw_seq ?_
        refine sw_region ?_
        refine r_idx (by exact tl rfl) (by exact rfl) (by exact rfl) (by omega) (by omega) (by first | exact .head _ | exact .tail _ (.head _) | exact .tail _ (.tail _ (.head _)) | exact .tail _ (.tail _ (.tail _ (.head _))) | exact .tail _ (.tail _ (.tail _ (.tail _ (.head _)))) | exact .tail _ (.tail _ (.tail _ (.tail _ (.tail _ (.head _))))) | exact .tail _ (.tail _ (.tail _ (.tail _ (.tail _ (.tail _ (.head _)))))) | exact .tail _ (.tail _ (.tail _ (.tail _ (.tail _ (.tail _ (.tail _ (.head _))))))) | exact .tail _ (.tail _ (.tail _ (.tail _ (.tail _ (.tail _ (.tail _ (.tail _ (.head _)))))))) | exact .tail _ (.tail _ (.tail _ (.tail _ (.tail _ (.tail _ (.tail _ (.tail _ (.tail _ (.head _))))))))) | exact .tail _ (.tail _ (.tail _ (.tail _ (.tail _ (.tail _ (.tail _ (.tail _ (.tail _ (.tail _ (.head _)))))))))) | exact .tail _ (.tail _ (.tail _ (.tail _ (.tail _ (.tail _ (.tail _ (.tail _ (.tail _ (.tail _ (.tail _ (.head _)))))))))))) (by simp [partsV]) (by exact rfl) (Int.toNat_natCast _) (by exact rfl) ?_
        refine r_load_mem1 (v := ps[i].v) (by exact tz rfl) (by exact rfl) (by first | exact .head _ | exact .tail _ (.head _) | exact .tail _ (.tail _ (.head _)) | exact .tail _ (.tail _ (.tail _ (.head _))) | exact .tail _ (.tail _ (.tail _ (.tail _ (.head _)))) | exact .tail _ (.tail _ (.tail _ (.tail _ (.tail _ (.head _))))) | exact .tail _ (.tail _ (.tail _ (.tail _ (.tail _ (.tail _ (.head _)))))) | exact .tail _ (.tail _ (.tail _ (.tail _ (.tail _ (.tail _ (.tail _ (.head _))))))) | exact .tail _ (.tail _ (.tail _ (.tail _ (.tail _ (.tail _ (.tail _ (.tail _ (.head _)))))))) | exact .tail _ (.tail _ (.tail _ (.tail _ (.tail _ (.tail _ (.tail _ (.tail _ (.tail _ (.head _))))))))) | exact .tail _ (.tail _ (.tail _ (.tail _ (.tail _ (.tail _ (.tail _ (.tail _ (.tail _ (.tail _ (.head _)))))))))) | exact .tail _ (.tail _ (.tail _ (.tail _ (.tail _ (.tail _ (.tail _ (.tail _ (.tail _ (.tail _ (.tail _ (.head _)))))))))))) (by simp [partsV, hi']) (by exact rfl) ?_
        refine f_have (φ := ps[i].res) (fun V w h => h _ (.tail _ (.head _)) _ (List.getElem_mem hi')) ?_
        refine r_assign (k := ?_)
        refine sl_nil ?_
        refine sp_then ?_
        refine sw_region ?_
        refine r_move (k := ?_)
        refine r_move (k := ?_)
        refine r_appendB (s := ps[i]) (by exact tl rfl) (by exact z5) (by exact rfl) (by exact rfl) (by first | exact .head _ | exact .tail _ (.head _) | exact .tail _ (.tail _ (.head _)) | exact .tail _ (.tail _ (.tail _ (.head _))) | exact .tail _ (.tail _ (.tail _ (.tail _ (.head _)))) | exact .tail _ (.tail _ (.tail _ (.tail _ (.tail _ (.head _))))) | exact .tail _ (.tail _ (.tail _ (.tail _ (.tail _ (.tail _ (.head _)))))) | exact .tail _ (.tail _ (.tail _ (.tail _ (.tail _ (.tail _ (.tail _ (.head _))))))) | exact .tail _ (.tail _ (.tail _ (.tail _ (.tail _ (.tail _ (.tail _ (.tail _ (.head _)))))))) | exact .tail _ (.tail _ (.tail _ (.tail _ (.tail _ (.tail _ (.tail _ (.tail _ (.tail _ (.head _))))))))) | exact .tail _ (.tail _ (.tail _ (.tail _ (.tail _ (.tail _ (.tail _ (.tail _ (.tail _ (.tail _ (.head _)))))))))) | exact .tail _ (.tail _ (.tail _ (.tail _ (.tail _ (.tail _ (.tail _ (.tail _ (.tail _ (.tail _ (.tail _ (.head _)))))))))))) (by omega) (by exact rfl) fun v' h3 h4 => ?_
        rw [← e1]
        refine r_assign (k := ?_)
        refine sl_nil ?_
        refine sp_block ?_
        refine sp_then ?_
        refine sw_region ?_
        refine r_add64 (k := ?_)
        refine r_move (k := ?_)
        refine sl_nil ?_
        refine sp_loop (ι := { p : Nat × Value // p.1 ≤ ps.length ∧ p.2.cells = #[p.2] ∧ p.2.oneCell' = true }) ⟨(i + 1, v'), by dsimp only; omega, h3, h4⟩ ?_ ?_
        · dsimp only; omega
        · exact Ent.mk' (by repeat' (first | trivial | exact rfl | apply And.intro)) (by repeat' (first | trivial | exact .head _ | exact .tail _ (.head _) | exact .tail _ (.tail _ (.head _)) | exact .tail _ (.tail _ (.tail _ (.head _))) | exact .tail _ (.tail _ (.tail _ (.tail _ (.head _)))) | exact .tail _ (.tail _ (.tail _ (.tail _ (.tail _ (.head _))))) | exact .tail _ (.tail _ (.tail _ (.tail _ (.tail _ (.tail _ (.head _)))))) | exact .tail _ (.tail _ (.tail _ (.tail _ (.tail _ (.tail _ (.tail _ (.head _))))))) | exact .tail _ (.tail _ (.tail _ (.tail _ (.tail _ (.tail _ (.tail _ (.tail _ (.head _)))))))) | exact .tail _ (.tail _ (.tail _ (.tail _ (.tail _ (.tail _ (.tail _ (.tail _ (.tail _ (.head _))))))))) | exact .tail _ (.tail _ (.tail _ (.tail _ (.tail _ (.tail _ (.tail _ (.tail _ (.tail _ (.tail _ (.head _)))))))))) | exact .tail _ (.tail _ (.tail _ (.tail _ (.tail _ (.tail _ (.tail _ (.tail _ (.tail _ (.tail _ (.tail _ (.head _))))))))))) | apply And.intro))
      · have h := of_decide_eq_false h
        obtain rfl : i = ps.length := by omega
        rw [List.take_length]
        refine sw_exit ?_
        refine sp_then_exit ?_
        refine sp_loop_exit ?_
        refine sp_block_exit ?_
        refine sp_then ?_
        refine sw_seq ?_
        refine sw_region ?_
        refine r_move (k := ?_)
        refine r_assign (k := ?_)
        refine sl_nil ?_
        refine sp_then ?_
        refine sw_ret ?_
        refine sp_retv rfl rfl (.tmp rfl) rfl rfl ⟨h1, h2, rfl, rfl⟩ (List.Sublist.refl _) rfl (by simp)

/-- pack.PutBytes -/
theorem c_putBytes (G : Res) (b s : BS) (hb : b.ok) (hs : s.ok) (hbl : b.xs.length ≤ 1099511620000) (hsl : s.xs.length ≤ 255) : Ctr Tryd.prog G 48 [b.v, s.v] [] [b.res, s.res] (retR 5 (b.xs ++ UInt8.ofNat s.xs.length :: s.xs)) := by
  refine Ctr.intro Tryd.func48 (by kernel_rfl) rfl Tryd.ntmps48 rfl rfl rfl fun w X => ?_
  refine sw_seq ?_
  refine sw_region ?_
  refine r_assign (k := ?_)
  refine sl_nil ?_
  refine sp_then ?_
  refine sw_seq ?_
  refine sw_region ?_
  refine r_move (k := ?_)
  refine r_move (k := ?_)
  refine r_len (k := ?_)
  refine r_min (k := ?_)
  refine r_re (t := 8) (v' := vi (s.xs.length : Int)) rfl (by rw [if_neg (by omega)]) ?_
  refine r_cutB (s := s) (l := 0) (h := s.xs.length) (by exact tl rfl) (by exact rfl) (by first | exact .head _ | exact .tail _ (.head _) | exact .tail _ (.tail _ (.head _)) | exact .tail _ (.tail _ (.tail _ (.head _))) | exact .tail _ (.tail _ (.tail _ (.tail _ (.head _)))) | exact .tail _ (.tail _ (.tail _ (.tail _ (.tail _ (.head _))))) | exact .tail _ (.tail _ (.tail _ (.tail _ (.tail _ (.tail _ (.head _)))))) | exact .tail _ (.tail _ (.tail _ (.tail _ (.tail _ (.tail _ (.tail _ (.head _))))))) | exact .tail _ (.tail _ (.tail _ (.tail _ (.tail _ (.tail _ (.tail _ (.tail _ (.head _)))))))) | exact .tail _ (.tail _ (.tail _ (.tail _ (.tail _ (.tail _ (.tail _ (.tail _ (.tail _ (.head _))))))))) | exact .tail _ (.tail _ (.tail _ (.tail _ (.tail _ (.tail _ (.tail _ (.tail _ (.tail _ (.tail _ (.head _)))))))))) | exact .tail _ (.tail _ (.tail _ (.tail _ (.tail _ (.tail _ (.tail _ (.tail _ (.tail _ (.tail _ (.tail _ (.head _)))))))))))) hs rfl ⟨_, rfl⟩ (by omega) (Nat.le_refl _) (by exact rfl) fun s2 hs2 hx2 => ?_
  have hx2 : s2.xs = s.xs := by rw [hx2]; simp
  refine r_assign (k := ?_)
  refine sl_nil ?_
  refine sp_then ?_
  refine sw_seq ?_
  refine sw_region ?_
  refine r_move (k := ?_)
  refine r_move (k := ?_)
  refine r_len (k := ?_)
  refine r_cv_i_8 (k := ?_)
  refine r_litB (xs := [.tmp 13]) (bs := [UInt8.ofNat s2.xs.length]) (by exact tl rfl) (by exact z5) (by exact rfl) (by exact rfl) (by exact rfl) (by exact rfl) (by exact rfl) fun v h1 h2 => ?_
  refine o_rowB fun one hone hxo e => ?_
  subst e
  refine r_move (k := ?_)
  refine r_lit (vs := [b.v, one.v, s2.v]) (xs := [.tmp 10, .tmp 14, .tmp 15]) (cells := [b.v, one.v, s2.v]) (by exact tl rfl) (by exact z28) (by exact rfl) (by exact rfl) (by intro v hv; simp at hv; rcases hv with rfl | rfl | rfl <;> rfl) (by decide) (by decide) (by exact rfl) (by exact rfl) (by exact rfl) fun q => ?_
  refine o_row fun ba cap e h1 h2 h3 => ?_
  cases e
  refine f_have (φ := Res.all [b, one, s2] BS.res) (fun V w h p hp => ?_) ?_
  · simp at hp
    rcases hp with rfl | rfl | rfl
    · exact h _ (by first | exact .head _ | exact .tail _ (.head _) | exact .tail _ (.tail _ (.head _)) | exact .tail _ (.tail _ (.tail _ (.head _))) | exact .tail _ (.tail _ (.tail _ (.tail _ (.head _)))) | exact .tail _ (.tail _ (.tail _ (.tail _ (.tail _ (.head _))))) | exact .tail _ (.tail _ (.tail _ (.tail _ (.tail _ (.tail _ (.head _)))))) | exact .tail _ (.tail _ (.tail _ (.tail _ (.tail _ (.tail _ (.tail _ (.head _))))))) | exact .tail _ (.tail _ (.tail _ (.tail _ (.tail _ (.tail _ (.tail _ (.tail _ (.head _)))))))) | exact .tail _ (.tail _ (.tail _ (.tail _ (.tail _ (.tail _ (.tail _ (.tail _ (.tail _ (.head _))))))))) | exact .tail _ (.tail _ (.tail _ (.tail _ (.tail _ (.tail _ (.tail _ (.tail _ (.tail _ (.tail _ (.head _)))))))))) | exact .tail _ (.tail _ (.tail _ (.tail _ (.tail _ (.tail _ (.tail _ (.tail _ (.tail _ (.tail _ (.tail _ (.head _))))))))))))
    · exact h _ (by first | exact .head _ | exact .tail _ (.head _) | exact .tail _ (.tail _ (.head _)) | exact .tail _ (.tail _ (.tail _ (.head _))) | exact .tail _ (.tail _ (.tail _ (.tail _ (.head _)))) | exact .tail _ (.tail _ (.tail _ (.tail _ (.tail _ (.head _))))) | exact .tail _ (.tail _ (.tail _ (.tail _ (.tail _ (.tail _ (.head _)))))) | exact .tail _ (.tail _ (.tail _ (.tail _ (.tail _ (.tail _ (.tail _ (.head _))))))) | exact .tail _ (.tail _ (.tail _ (.tail _ (.tail _ (.tail _ (.tail _ (.tail _ (.head _)))))))) | exact .tail _ (.tail _ (.tail _ (.tail _ (.tail _ (.tail _ (.tail _ (.tail _ (.tail _ (.head _))))))))) | exact .tail _ (.tail _ (.tail _ (.tail _ (.tail _ (.tail _ (.tail _ (.tail _ (.tail _ (.tail _ (.head _)))))))))) | exact .tail _ (.tail _ (.tail _ (.tail _ (.tail _ (.tail _ (.tail _ (.tail _ (.tail _ (.tail _ (.tail _ (.head _))))))))))))
    · exact h _ (by first | exact .head _ | exact .tail _ (.head _) | exact .tail _ (.tail _ (.head _)) | exact .tail _ (.tail _ (.tail _ (.head _))) | exact .tail _ (.tail _ (.tail _ (.tail _ (.head _)))) | exact .tail _ (.tail _ (.tail _ (.tail _ (.tail _ (.head _))))) | exact .tail _ (.tail _ (.tail _ (.tail _ (.tail _ (.tail _ (.head _)))))) | exact .tail _ (.tail _ (.tail _ (.tail _ (.tail _ (.tail _ (.tail _ (.head _))))))) | exact .tail _ (.tail _ (.tail _ (.tail _ (.tail _ (.tail _ (.tail _ (.tail _ (.head _)))))))) | exact .tail _ (.tail _ (.tail _ (.tail _ (.tail _ (.tail _ (.tail _ (.tail _ (.tail _ (.head _))))))))) | exact .tail _ (.tail _ (.tail _ (.tail _ (.tail _ (.tail _ (.tail _ (.tail _ (.tail _ (.tail _ (.head _)))))))))) | exact .tail _ (.tail _ (.tail _ (.tail _ (.tail _ (.tail _ (.tail _ (.tail _ (.tail _ (.tail _ (.tail _ (.head _))))))))))))
  have e : flat [b, one, s2] = b.xs ++ UInt8.ofNat s.xs.length :: s.xs := by simp [flat, hxo, hx2]
  refine r_callR (Bp := []) (Br := []) (c_concat G (some ⟨q, 0, none⟩) 3 [b, one, s2] (by intro p hp; simp at hp; rcases hp with rfl | rfl | rfl <;> assumption) (by simp [maxLen]) (by rw [e]; simp; omega)) (by exact rfl) (by exact rfl) (by exact rfl) (by simp [partsV]) (by exact rfl) fun v h1 h2 => ?_
  rw [e]
  refine r_assign (k := ?_)
  refine sl_nil ?_
  refine sp_then ?_
  refine sw_ret ?_
  refine sp_retv rfl rfl (.tmp rfl) rfl rfl ⟨h1, h2, rfl, rfl⟩ (List.Sublist.refl _) rfl (by simp)

/-- What TakeBytes tells of a length and what is behind it: bytes, the rest, an error. -/
def takeB (n : UInt8) (l : List UInt8) (most : Int) : List UInt8 × List UInt8 × Int :=
  if (l.length : Int) + 1 ≤ (n.toNat : Int) then ([], n :: l, 20) else if most < (n.toNat : Int) then ([], n :: l, 21) else (l.take n.toNat, l.drop n.toNat, 0)
def BS.nil : BS := ⟨none, 0, []⟩
theorem nil_res {V : Av} {w : World} : BS.nil.res.p V w := fun i v hv => by simp [BS.nil, bv] at hv

theorem c_takeBytes (G : Res) (b : BS) (hok : b.ok) (n : UInt8) (l : List UInt8) (hb : b.xs = n :: l) (hbl : l.length ≤ 1099511627776) (most : Int) : Ctr Tryd.prog G 55 [b.v, vi most] [] [b.res]
    (retF fun v Φ' => ∃ k r : BS, v = .tuple #[k.v, r.v, vi (takeB n l most).2.2] ∧ k.ok ∧ r.ok ∧ k.xs = (takeB n l most).1 ∧ r.xs = (takeB n l most).2.1 ∧ Φ' = [k.res, r.res]) := by
  have hlen : b.xs.length = l.length + 1 := by rw [hb]; rfl
  have hn := lt8 n
  have hload : (bv b.xs)[0 * 1]? = some (v8 n) := by rw [hb]; rfl
  refine Ctr.intro Tryd.func55 (by kernel_rfl) rfl Tryd.ntmps55 rfl rfl rfl fun w X => ?_
  refine sw_seq ?_
  refine sw_region ?_
  refine r_assign (k := ?_)
  refine r_assign (k := ?_)
  refine r_assign (k := ?_)
  refine sl_nil ?_
  refine sp_then ?_
  refine sw_scope ?_
  refine sw_seq ?_
  refine sw_region ?_
  refine r_move (k := ?_)
  refine r_assign (k := ?_)
  refine sl_nil ?_
  refine sp_then ?_
  refine sw_seq ?_
  refine sw_label ?_
  refine sp_then ?_
  refine sw_seq ?_
  refine sw_block ?_
  refine sw_seq ?_
  refine sw_region ?_
  refine r_move (k := ?_)
  refine r_len (k := ?_)
  refine r_eql (k := ?_)
  refine r_move (k := ?_)
  refine r_re (t := 26) (v' := vb false) rfl (by simp [hb]; omega) ?_
  refine gd_yes (k := ?_)
  refine r_move (k := ?_)
  refine gd_yes (k := ?_)
  refine r_len (k := ?_)
  refine gd_yes (k := ?_)
  refine r_move (k := ?_)
  refine gd_yes (k := ?_)
  refine r_idx (k := ?_)
  refine gd_yes (k := ?_)
  refine r_load_mem1 (by exact tz rfl) (by exact rfl) (by first | exact .head _ | exact .tail _ (.head _) | exact .tail _ (.tail _ (.head _)) | exact .tail _ (.tail _ (.tail _ (.head _))) | exact .tail _ (.tail _ (.tail _ (.tail _ (.head _)))) | exact .tail _ (.tail _ (.tail _ (.tail _ (.tail _ (.head _))))) | exact .tail _ (.tail _ (.tail _ (.tail _ (.tail _ (.tail _ (.head _)))))) | exact .tail _ (.tail _ (.tail _ (.tail _ (.tail _ (.tail _ (.tail _ (.head _))))))) | exact .tail _ (.tail _ (.tail _ (.tail _ (.tail _ (.tail _ (.tail _ (.tail _ (.head _)))))))) | exact .tail _ (.tail _ (.tail _ (.tail _ (.tail _ (.tail _ (.tail _ (.tail _ (.tail _ (.head _))))))))) | exact .tail _ (.tail _ (.tail _ (.tail _ (.tail _ (.tail _ (.tail _ (.tail _ (.tail _ (.tail _ (.head _)))))))))) | exact .tail _ (.tail _ (.tail _ (.tail _ (.tail _ (.tail _ (.tail _ (.tail _ (.tail _ (.tail _ (.tail _ (.head _)))))))))))) hload (by exact rfl) ?_
  refine gd_yes (k := ?_)
  refine r_cv_8_i (k := ?_)
  refine gd_yes (k := ?_)
  refine r_leq (k := ?_)
  refine rd_pick_f (k := ?_)
  refine r_assign (k := ?_)
  refine sl_nil ?_
  refine sp_then ?_
  refine sw_cond rfl (fun h => ?_) (fun h => ?_)
  · have h := of_decide_eq_true h
    have e : takeB n l most = ([], n :: l, 20) := if_pos (by omega)
    rw [e]
    refine sw_region ?_
    refine r_assign (k := ?_)
    refine sl_nil ?_
    refine sp_block ?_
    refine sp_then ?_
    refine sw_seq ?_
    refine sw_region ?_
    refine r_move (k := ?_)
    refine r_move (k := ?_)
    refine r_move (k := ?_)
    refine r_assign (k := ?_)
    refine r_assign (k := ?_)
    refine r_assign (k := ?_)
    refine sl_nil ?_
    refine sp_then ?_
    refine sw_ret ?_
    refine sp_ng_ret ?_
    refine sp_of_sl (fun h => f_have (φ := BS.nil.res) (fun V w hw => nil_res) h) ?_
    refine sp_ret3 rfl rfl (.tmp rfl) (.tmp rfl) (.tmp rfl) rfl rfl ⟨rfl, BS.nil, b, rfl, ⟨Nat.le_refl _, Nat.zero_le _⟩, hok, rfl, hb, rfl⟩ (by simp) rfl (by simp)
  have h := of_decide_eq_false h
  have e1 : ¬ ((l.length : Int) + 1 ≤ (n.toNat : Int)) := by omega
  refine sw_seq ?_
  refine sw_region ?_
  refine r_move (k := ?_)
  refine r_idx (k := ?_)
  refine r_load_mem1 (by exact tz rfl) (by exact rfl) (by first | exact .head _ | exact .tail _ (.head _) | exact .tail _ (.tail _ (.head _)) | exact .tail _ (.tail _ (.tail _ (.head _))) | exact .tail _ (.tail _ (.tail _ (.tail _ (.head _)))) | exact .tail _ (.tail _ (.tail _ (.tail _ (.tail _ (.head _))))) | exact .tail _ (.tail _ (.tail _ (.tail _ (.tail _ (.tail _ (.head _)))))) | exact .tail _ (.tail _ (.tail _ (.tail _ (.tail _ (.tail _ (.tail _ (.head _))))))) | exact .tail _ (.tail _ (.tail _ (.tail _ (.tail _ (.tail _ (.tail _ (.tail _ (.head _)))))))) | exact .tail _ (.tail _ (.tail _ (.tail _ (.tail _ (.tail _ (.tail _ (.tail _ (.tail _ (.head _))))))))) | exact .tail _ (.tail _ (.tail _ (.tail _ (.tail _ (.tail _ (.tail _ (.tail _ (.tail _ (.tail _ (.head _)))))))))) | exact .tail _ (.tail _ (.tail _ (.tail _ (.tail _ (.tail _ (.tail _ (.tail _ (.tail _ (.tail _ (.tail _ (.head _)))))))))))) hload (by exact rfl) ?_
  refine r_cv_8_i (k := ?_)
  refine r_move (k := ?_)
  refine r_gtr (k := ?_)
  refine r_assign (k := ?_)
  refine sl_nil ?_
  refine sp_then ?_
  refine sw_cond rfl (fun h => ?_) (fun h => ?_)
  · have h := of_decide_eq_true h
    have e : takeB n l most = ([], n :: l, 21) := by unfold takeB; rw [if_neg e1, if_pos h]
    rw [e]
    refine sw_region ?_
    refine r_assign (k := ?_)
    refine sl_nil ?_
    refine sp_block ?_
    refine sp_then ?_
    refine sw_seq ?_
    refine sw_region ?_
    refine r_move (k := ?_)
    refine r_move (k := ?_)
    refine r_move (k := ?_)
    refine r_assign (k := ?_)
    refine r_assign (k := ?_)
    refine r_assign (k := ?_)
    refine sl_nil ?_
    refine sp_then ?_
    refine sw_ret ?_
    refine sp_ng_ret ?_
    refine sp_of_sl (fun h => f_have (φ := BS.nil.res) (fun V w hw => nil_res) h) ?_
    refine sp_ret3 rfl rfl (.tmp rfl) (.tmp rfl) (.tmp rfl) rfl rfl ⟨rfl, BS.nil, b, rfl, ⟨Nat.le_refl _, Nat.zero_le _⟩, hok, rfl, hb, rfl⟩ (by simp) rfl (by simp)
  have h := of_decide_eq_false h
  have e : takeB n l most = (l.take n.toNat, l.drop n.toNat, 0) := by unfold takeB; rw [if_neg e1, if_neg h]
  rw [e]
  refine sw_seq ?_
  refine sw_region ?_
  refine r_move (k := ?_)
  refine r_idx (k := ?_)
  refine r_load_mem1 (by exact tz rfl) (by exact rfl) (by first | exact .head _ | exact .tail _ (.head _) | exact .tail _ (.tail _ (.head _)) | exact .tail _ (.tail _ (.tail _ (.head _))) | exact .tail _ (.tail _ (.tail _ (.tail _ (.head _)))) | exact .tail _ (.tail _ (.tail _ (.tail _ (.tail _ (.head _))))) | exact .tail _ (.tail _ (.tail _ (.tail _ (.tail _ (.tail _ (.head _)))))) | exact .tail _ (.tail _ (.tail _ (.tail _ (.tail _ (.tail _ (.tail _ (.head _))))))) | exact .tail _ (.tail _ (.tail _ (.tail _ (.tail _ (.tail _ (.tail _ (.tail _ (.head _)))))))) | exact .tail _ (.tail _ (.tail _ (.tail _ (.tail _ (.tail _ (.tail _ (.tail _ (.tail _ (.head _))))))))) | exact .tail _ (.tail _ (.tail _ (.tail _ (.tail _ (.tail _ (.tail _ (.tail _ (.tail _ (.tail _ (.head _)))))))))) | exact .tail _ (.tail _ (.tail _ (.tail _ (.tail _ (.tail _ (.tail _ (.tail _ (.tail _ (.tail _ (.tail _ (.head _)))))))))))) hload (by exact rfl) ?_
  refine r_cv_8_i (k := ?_)
  refine r_add64 (k := ?_)
  refine r_assign (k := ?_)
  refine sl_nil ?_
  refine sp_then ?_
  refine sw_seq ?_
  refine w_re (t := 7) (v' := vi ((1 + n.toNat : Nat) : Int)) rfl (by simp) ?_
  refine sw_draw [] [b.res] [0, 1, 2, 3, 4, 5, 6, 7, 8, 9] mix (by kernel_rfl) rfl ?_
  refine ra_first 1 [] [0, 2, 3, 4, 5, 6, 7, 8, 9] (hq := by exact q_move) (k := ?_)
  refine ra_first 2 [] [0, 3, 4, 5, 6, 7, 8, 9] (hq := by exact q_move) (k := ?_)
  refine ra_first 3 [] [0, 4, 5, 6, 7, 8, 9] (hq := by exact q_cutB (s := b) (l := 1) (h := 1 + n.toNat) (by exact tl rfl) (by exact rfl) hok ⟨_, rfl⟩ ⟨_, rfl⟩ (by omega) (by omega)) (k := ?_)
  refine ra_first 5 [] [0, 4, 6, 7, 8, 9] (hq := by exact q_move) (k := ?_)
  refine ra_first 6 [] [0, 4, 7, 8, 9] (hq := by exact q_move) (k := ?_)
  refine ra_first 7 [] [0, 4, 8, 9] (hq := by exact q_cutB (s := b) (l := 1 + n.toNat) (h := b.xs.length) (by exact tl rfl) (by exact rfl) hok ⟨_, rfl⟩ rfl (by omega) (Nat.le_refl _)) (k := ?_)
  refine ra1 (i := 0) [4, 8, 9] (h := ?_)
  refine r_litB (xs := []) (bs := []) (by exact tl rfl) (by exact z5) (by exact rfl) (by exact rfl) (by exact rfl) (by exact rfl) (by exact rfl) fun v h1 h2 => ?_
  refine sl_nil ?_
  refine sp_nx (k := ?_)
  refine ra1 (i := 4) [8, 9] (h := ?_)
  refine f_have (φ := (cutB b 1 (1 + n.toNat)).res) (fun V w hw => cutB_res (hw _ (.head _)) hok (by omega) (by omega)) ?_
  refine r_appendB (xs := []) (s := cutB b 1 (1 + n.toNat)) (by exact tl rfl) (by exact z5) (by exact rfl) (by exact rfl) (by first | exact .head _ | exact .tail _ (.head _) | exact .tail _ (.tail _ (.head _)) | exact .tail _ (.tail _ (.tail _ (.head _))) | exact .tail _ (.tail _ (.tail _ (.tail _ (.head _)))) | exact .tail _ (.tail _ (.tail _ (.tail _ (.tail _ (.head _))))) | exact .tail _ (.tail _ (.tail _ (.tail _ (.tail _ (.tail _ (.head _)))))) | exact .tail _ (.tail _ (.tail _ (.tail _ (.tail _ (.tail _ (.tail _ (.head _))))))) | exact .tail _ (.tail _ (.tail _ (.tail _ (.tail _ (.tail _ (.tail _ (.tail _ (.head _)))))))) | exact .tail _ (.tail _ (.tail _ (.tail _ (.tail _ (.tail _ (.tail _ (.tail _ (.tail _ (.head _))))))))) | exact .tail _ (.tail _ (.tail _ (.tail _ (.tail _ (.tail _ (.tail _ (.tail _ (.tail _ (.tail _ (.head _)))))))))) | exact .tail _ (.tail _ (.tail _ (.tail _ (.tail _ (.tail _ (.tail _ (.tail _ (.tail _ (.tail _ (.tail _ (.head _)))))))))))) (by simp [cutB]; omega) (by exact rfl) fun v' h3 h4 => ?_
  refine sl_nil ?_
  refine sp_nx (k := ?_)
  refine ra_first 8 [] [9] (hq := by exact q_assign) (k := ?_)
  refine ra_first 9 [] [] (hq := by exact q_assign) (k := ?_)
  refine ra_done ?_
  refine sp_then ?_
  refine sw_exit ?_
  refine sp_block_exit ?_
  refine sp_then ?_
  refine sw_seq ?_
  refine sw_region ?_
  refine r_move (k := ?_)
  refine r_move (k := ?_)
  refine r_move (k := ?_)
  refine r_assign (k := ?_)
  refine r_assign (k := ?_)
  refine r_assign (k := ?_)
  refine sl_nil ?_
  refine sp_then ?_
  refine sw_ret ?_
  refine sp_ng_ret ?_
  refine sp_rowB fun k hk hkx ek => ?_
  subst ek
  refine sp_of_sl (fun h => f_have (φ := (cutB b (1 + n.toNat) b.xs.length).res) (fun V w hw => cutB_res (hw _ (.tail _ (.tail _ (.head _)))) hok (by omega) (Nat.le_refl _)) h) ?_
  refine sp_ret3 rfl rfl (.tmp rfl) (.tmp rfl) (.tmp rfl) rfl rfl ⟨rfl, k, cutB b (1 + n.toNat) b.xs.length, rfl, hk, cutB_ok hok (Nat.le_refl _), ?_, ?_, rfl⟩ (by simp) rfl (by simp)
  · rw [hkx]; simp [cutB, hb]
  · simp [cutB, hb]
    rw [Nat.add_comm 1, List.drop_succ_cons, List.take_of_length_le (by simp)]

def idxf (p : UInt8 → Bool) : List UInt8 → Int → Int
  | [], _ => -1
  | x :: l, i => bif p x then i else idxf p l (i + 1)
theorem idxf_any (p : UInt8 → Bool) : ∀ (l : List UInt8) (i : Int), 0 ≤ i → decide (0 ≤ idxf p l i) = l.any p
  | [], _, _ => rfl
  | x :: l, i, h => by
    rw [idxf, List.any_cons]
    cases p x
    · simpa using idxf_any p l (i + 1) (by omega)
    · simpa using h

theorem c_indexFunc (G : Res) (s : BS) (hok : s.ok) (p : UInt8 → Bool) {fid : FuncId} (hf : ∀ x, Ctr Tryd.prog G fid [v8 x] [] [] (ret1 (vb (p x)))) : Ctr Tryd.prog G 114 [s.v, .func (.func fid) #[] #[]] [] [s.res] (ret1 (vi (idxf p s.xs 0))) := by
  have hn' : s.xs.length ≤ 9223372036854775807 := Nat.le_trans hok.1 hok.2
  refine Ctr.intro Tryd.func114 (by kernel_rfl) rfl Tryd.ntmps114 rfl rfl rfl fun w X => ?_
  refine sw_seq ?_
  refine sw_region ?_
  refine r_assign (k := ?_)
  refine sl_nil ?_
  refine sp_then ?_
  refine sw_seq ?_
  refine sw_seq ?_
  refine sw_region ?_
  refine r_move (k := ?_)
  refine r_len (k := ?_)
  refine r_move (k := ?_)
  refine sl_nil ?_
  refine sp_then ?_
  refine sw_block ?_
  refine sw_loop (ι := { i : Nat // i ≤ s.xs.length ∧ idxf p (s.xs.drop i) i = idxf p s.xs 0 }) (fun i => [(0, s.v), (1, .func (.func fid) #[] #[]), (7, vi (s.xs.length : Int)), (8, vi (i.1 : Int))]) (fun _ => []) (fun _ => [s.res]) (fun _ => []) (fun i => s.xs.length - i.1) ⟨0, by simp⟩ ?_ fun i => ?_
  · exact Ent.mk' (by repeat' (first | trivial | exact rfl | apply And.intro)) (by repeat' (first | trivial | exact .head _ | exact .tail _ (.head _) | exact .tail _ (.tail _ (.head _)) | exact .tail _ (.tail _ (.tail _ (.head _))) | exact .tail _ (.tail _ (.tail _ (.tail _ (.head _)))) | exact .tail _ (.tail _ (.tail _ (.tail _ (.tail _ (.head _))))) | exact .tail _ (.tail _ (.tail _ (.tail _ (.tail _ (.tail _ (.head _)))))) | exact .tail _ (.tail _ (.tail _ (.tail _ (.tail _ (.tail _ (.tail _ (.head _))))))) | exact .tail _ (.tail _ (.tail _ (.tail _ (.tail _ (.tail _ (.tail _ (.tail _ (.head _)))))))) | exact .tail _ (.tail _ (.tail _ (.tail _ (.tail _ (.tail _ (.tail _ (.tail _ (.tail _ (.head _))))))))) | exact .tail _ (.tail _ (.tail _ (.tail _ (.tail _ (.tail _ (.tail _ (.tail _ (.tail _ (.tail _ (.head _)))))))))) | exact .tail _ (.tail _ (.tail _ (.tail _ (.tail _ (.tail _ (.tail _ (.tail _ (.tail _ (.tail _ (.tail _ (.head _))))))))))) | apply And.intro))
  obtain ⟨i, hi, hr⟩ := i
  dsimp only
  refine sw_seq ?_
  refine sw_region ?_
  refine r_lss (k := ?_)
  refine sl_nil ?_
  refine sp_then ?_
  refine sw_seq ?_
  refine sw_cond rfl (fun h => ?_) (fun h => ?_)
  · have h := of_decide_eq_true h
    have hi' : i < s.xs.length := by omega
    rw [drop_cons _ i hi', idxf] at hr
    refine sw_skip ?_
    refine sp_then ?_
    refine sw_seq ?_
    refine sw_block ?_
    refine sw_seq ?_
    refine sw_region ?_
    refine r_move (k := ?_)
    refine r_assign (k := ?_)
    refine sl_nil ?_
    refine sp_then ?_
    refine sw_seq ?_
    refine sw_region ?_
    refine r_move (k := ?_)
    refine r_move (k := ?_)
    refine r_move (k := ?_)
    refine r_idx (k := ?_)
    refine r_load_mem1 (v := v8 s.xs[i]) (by exact tz rfl) (by exact rfl) (by first | exact .head _ | exact .tail _ (.head _) | exact .tail _ (.tail _ (.head _)) | exact .tail _ (.tail _ (.tail _ (.head _))) | exact .tail _ (.tail _ (.tail _ (.tail _ (.head _)))) | exact .tail _ (.tail _ (.tail _ (.tail _ (.tail _ (.head _))))) | exact .tail _ (.tail _ (.tail _ (.tail _ (.tail _ (.tail _ (.head _)))))) | exact .tail _ (.tail _ (.tail _ (.tail _ (.tail _ (.tail _ (.tail _ (.head _))))))) | exact .tail _ (.tail _ (.tail _ (.tail _ (.tail _ (.tail _ (.tail _ (.tail _ (.head _)))))))) | exact .tail _ (.tail _ (.tail _ (.tail _ (.tail _ (.tail _ (.tail _ (.tail _ (.tail _ (.head _))))))))) | exact .tail _ (.tail _ (.tail _ (.tail _ (.tail _ (.tail _ (.tail _ (.tail _ (.tail _ (.tail _ (.head _)))))))))) | exact .tail _ (.tail _ (.tail _ (.tail _ (.tail _ (.tail _ (.tail _ (.tail _ (.tail _ (.tail _ (.tail _ (.head _)))))))))))) (by rw [Nat.mul_one]; exact bv_get _ _ hi') (by exact rfl) ?_
    refine r_call1 (cap := []) (hf s.xs[i]) (by exact rfl) (by exact rfl) (by exact rfl) (by simp) (by exact rfl) ?_
    refine sl_nil ?_
    refine sp_then ?_
    cases hp : p s.xs[i]
    · rw [hp] at hr
      refine swd_f (h := ?_)
      refine sw_skip ?_
      refine sp_block ?_
      refine sp_then ?_
      refine sw_region ?_
      refine r_add64 (k := ?_)
      refine r_move (k := ?_)
      refine sl_nil ?_
      refine sp_loop (ι := { i : Nat // i ≤ s.xs.length ∧ idxf p (s.xs.drop i) i = idxf p s.xs 0 }) ⟨i + 1, by omega, by simpa using hr⟩ ?_ ?_
      · dsimp only; omega
      · exact Ent.mk' (by repeat' (first | trivial | exact rfl | apply And.intro)) (by repeat' (first | trivial | exact .head _ | exact .tail _ (.head _) | exact .tail _ (.tail _ (.head _)) | exact .tail _ (.tail _ (.tail _ (.head _))) | exact .tail _ (.tail _ (.tail _ (.tail _ (.head _)))) | exact .tail _ (.tail _ (.tail _ (.tail _ (.tail _ (.head _))))) | exact .tail _ (.tail _ (.tail _ (.tail _ (.tail _ (.tail _ (.head _)))))) | exact .tail _ (.tail _ (.tail _ (.tail _ (.tail _ (.tail _ (.tail _ (.head _))))))) | exact .tail _ (.tail _ (.tail _ (.tail _ (.tail _ (.tail _ (.tail _ (.tail _ (.head _)))))))) | exact .tail _ (.tail _ (.tail _ (.tail _ (.tail _ (.tail _ (.tail _ (.tail _ (.tail _ (.head _))))))))) | exact .tail _ (.tail _ (.tail _ (.tail _ (.tail _ (.tail _ (.tail _ (.tail _ (.tail _ (.tail _ (.head _)))))))))) | exact .tail _ (.tail _ (.tail _ (.tail _ (.tail _ (.tail _ (.tail _ (.tail _ (.tail _ (.tail _ (.tail _ (.head _))))))))))) | apply And.intro))
    · rw [hp] at hr
      have hr : (i : Int) = idxf p s.xs 0 := hr
      refine swd_t (h := ?_)
      refine sw_seq ?_
      refine sw_region ?_
      refine r_move (k := ?_)
      refine r_assign (k := ?_)
      refine sl_nil ?_
      refine sp_then ?_
      refine sw_ret ?_
      refine sp_block_ret ?_
      refine sp_then_ret ?_
      refine sp_loop_ret ?_
      refine sp_block_ret ?_
      refine sp_then_ret ?_
      refine sp_retv rfl rfl (.tmp rfl) rfl rfl ⟨by rw [hr], rfl, rfl⟩ (by simp) rfl (by simp)
  · have h := of_decide_eq_false h
    obtain rfl : i = s.xs.length := by omega
    rw [List.drop_length] at hr
    have hr : (-1 : Int) = idxf p s.xs 0 := hr
    refine sw_exit ?_
    refine sp_then_exit ?_
    refine sp_loop_exit ?_
    refine sp_block_exit ?_
    refine sp_then ?_
    refine sw_seq ?_
    refine sw_region ?_
    refine r_assign (k := ?_)
    refine sl_nil ?_
    refine sp_then ?_
    refine sw_ret ?_
    refine sp_retv rfl rfl (.tmp rfl) rfl rfl ⟨by rw [hr], rfl, rfl⟩ (by simp) rfl (by simp)

theorem c_containsFunc (G : Res) (s : BS) (hok : s.ok) (p : UInt8 → Bool) {fid : FuncId} (hf : ∀ x, Ctr Tryd.prog G fid [v8 x] [] [] (ret1 (vb (p x)))) : Ctr Tryd.prog G 91 [s.v, .func (.func fid) #[] #[]] [] [s.res] (ret1 (vb (s.xs.any p))) := by
  refine Ctr.intro Tryd.func91 (by kernel_rfl) rfl Tryd.ntmps91 rfl rfl rfl fun w X => ?_
  refine sw_seq ?_
  refine sw_region ?_
  refine r_assign (k := ?_)
  refine sl_nil ?_
  refine sp_then ?_
  refine sw_seq ?_
  refine sw_region ?_
  refine r_move (k := ?_)
  refine r_move (k := ?_)
  refine r_call1 (c_indexFunc G s hok p hf) (by exact rfl) (by exact rfl) (by exact rfl) (by simp) (by exact rfl) ?_
  refine r_geq (k := ?_)
  refine r_assign (k := ?_)
  refine sl_nil ?_
  refine sp_then ?_
  refine sw_ret ?_
  refine sp_retv rfl rfl (.tmp rfl) rfl rfl ⟨by rw [← idxf_any p s.xs 0 (by omega)], rfl, rfl⟩ (by simp) rfl (by simp)

def nonzero (x : UInt8) : Bool := decide ((x.toNat : Int) ≠ 0)
theorem c_clean1 (G : Res) (x : UInt8) : Ctr Tryd.prog G 92 [v8 x] [] [] (ret1 (vb (nonzero x))) := by
  refine Ctr.intro Tryd.func92 (by kernel_rfl) rfl Tryd.ntmps92 rfl rfl rfl fun w X => ?_
  refine sw_seq ?_
  refine sw_region ?_
  refine r_assign (k := ?_)
  refine sl_nil ?_
  refine sp_then ?_
  refine sw_seq ?_
  refine sw_region ?_
  refine r_move (k := ?_)
  refine r_neq (k := ?_)
  refine r_assign (k := ?_)
  refine sl_nil ?_
  refine sp_then ?_
  refine sw_ret ?_
  refine sp_retv rfl rfl (.tmp rfl) rfl rfl ⟨rfl, rfl, rfl⟩ (by simp) rfl (by simp)

theorem c_clean (G : Res) (s : BS) (hok : s.ok) : Ctr Tryd.prog G 56 [s.v] [] [s.res] (ret1 (vb (!s.xs.any nonzero))) := by
  refine Ctr.intro Tryd.func56 (by kernel_rfl) rfl Tryd.ntmps56 rfl rfl rfl fun w X => ?_
  refine sw_seq ?_
  refine sw_region ?_
  refine r_assign (k := ?_)
  refine sl_nil ?_
  refine sp_then ?_
  refine sw_seq ?_
  refine sw_region ?_
  refine r_move (k := ?_)
  refine r_call1 (c_containsFunc G s hok nonzero (c_clean1 G)) (by exact rfl) (by exact rfl) (by exact rfl) (by simp) (by exact rfl) ?_
  refine r_not (k := ?_)
  refine r_assign (k := ?_)
  refine sl_nil ?_
  refine sp_then ?_
  refine sw_ret ?_
  refine sp_retv rfl rfl (.tmp rfl) rfl rfl ⟨rfl, rfl, rfl⟩ (by simp) rfl (by simp)
end Go.Proofs.YtjahiohlekdhoaaDoor
