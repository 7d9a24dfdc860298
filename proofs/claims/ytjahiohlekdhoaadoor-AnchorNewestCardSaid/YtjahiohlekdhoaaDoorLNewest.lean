/-
  The walk of suturelaw09.AnchorNewest: it tells true.
-/
import Derived.Test.YtjahiohlekdhoaaDoorWakes9
namespace Go.Proofs.YtjahiohlekdhoaaDoor
open Go
set_option maxHeartbeats 4000000
set_option maxRecDepth 4000
attribute [local irreducible] SW SL SP RA Then FQ IQ LoopQ RQ AQ NX CutQ Exit.noGoto

def txN (L : List AncV) (i : Nat) : Nat := ((L[i]?).map (·.tx.toNat)).getD 0
theorem txN_at (L : List AncV) (i : Nat) (h : i < L.length) : txN L i = L[i].tx.toNat := by simp [txN, h]
theorem newI_spec (L : List AncV) : ∀ n, 1 ≤ n → ∃ at' : Nat, newI L n = at' ∧ at' < n ∧ (∀ i, i < n → txN L i ≤ txN L at') ∧ ∀ i, i < at' → txN L i < txN L at'
  | 0, h => by omega
  | 1, _ => ⟨0, by simp [newI], by omega, fun i hi => by obtain rfl : i = 0 := by omega
                                                         exact Nat.le_refl _, fun i hi => by omega⟩
  | n + 2, _ => by
    obtain ⟨a, h1, h2, h3, h4⟩ := newI_spec L (n + 1) (by omega)
    have e : newI L (n + 2) = if (txN L a : Int) < (txN L (n + 1) : Int) then ((n + 1 : Nat) : Int) else (a : Int) := by
      rw [newI, h1, if_neg (by omega)]
      simp only [Int.toNat_natCast]
      have hc : ∀ i, (Option.map (fun x : AncV => (x.tx.toNat : Int)) L[i]?).getD 0 = (txN L i : Int) := fun i => by unfold txN; cases L[i]? <;> rfl
      simp only [hc]
    by_cases hc : txN L a < txN L (n + 1)
    · refine ⟨n + 1, by rw [e, if_pos (by omega)], by omega, fun i hi => ?_, fun i hi => ?_⟩
      · rcases Nat.lt_or_ge i (n + 1) with h | h
        · have := h3 i h; omega
        · obtain rfl : i = n + 1 := by omega
          exact Nat.le_refl _
      · have := h3 i hi; omega
    · refine ⟨a, by rw [e, if_neg (by omega)], by omega, fun i hi => ?_, h4⟩
      rcases Nat.lt_or_ge i (n + 1) with h | h
      · exact h3 i h
      · obtain rfl : i = n + 1 := by omega
        omega

/-- Which slots were seen behind i rounds, the first one being r. -/
def seenL (r i : Nat) : List Bool := (List.range 4).map fun s => (List.range i).any fun j => (r + j) % 4 == s
theorem seenL_len (r i : Nat) : (seenL r i).length = 4 := by simp [seenL]
theorem seenL_at : ∀ r, r < 4 → ∀ i, i < 4 → (seenL r i)[(r + i) % 4]? = some false := by decide
theorem seenL_set : ∀ r, r < 4 → ∀ i, i < 4 → (seenL r i).set ((r + i) % 4) true = seenL r (i + 1) := by decide
theorem slot_add (tx i : UInt32) (_h : tx.toNat ≤ 1073741824) (_hi : i.toNat ≤ 4) : ((tx + i) % 4).toNat = (tx.toNat % 4 + i.toNat) % 4 := by
  simp only [UInt32.toNat_mod, UInt32.toNat_add]
  have : (4 : UInt32).toNat = 4 := rfl
  rw [this]; omega

theorem c_lawNewest (ba : Option Addr) (cap : Nat) (L : List AncV) (tx : UInt32) (hn : L.length ≤ maxLen) : Ctr Tryd.prog GW 5 [.slice ba L.length cap, v32 tx] [] [Res.mem ba (ancsV L)] (ret1 (vb true)) := by
  have hn' : L.length ≤ 9223372036854775807 := hn
  have hal := ancsV_len L
  refine Ctr.intro Tryd.func5 (by kernel_rfl) rfl Tryd.ntmps5 rfl rfl rfl fun w X => ?_
  refine sw_seq ?_
  refine sw_region ?_
  refine r_assign (k := ?_)
  refine sl_nil ?_
  refine sp_then ?_
  refine sw_seq ?_
  refine sw_seq ?_
  refine sw_region ?_
  refine r_move (k := ?_)
  refine r_call1 (c_great GW ba cap L hn) (by exact rfl) (by exact rfl) (by exact rfl) (by simp) (by exact rfl) ?_
  refine r_move (k := ?_)
  refine g_part (h1 := fun hg => ?_) (h2 := fun hg => ?_)
  focus
    refine gd_no (k := ?_)
    refine gd_no (k := ?_)
    refine rd_pick_t (k := ?_)
    refine sl_nil ?_
    refine sp_then ?_
    refine swd_t (h := ?_)
    refine sw_seq ?_
    refine sw_region ?_
  rotate_left 1
  focus
    refine gd_yes (k := ?_)
    refine r_move (k := ?_)
    refine gd_yes (k := ?_)
    refine r_gtr (k := ?_)
    refine rd_pick_f (k := ?_)
    refine sl_nil ?_
    refine sp_then ?_
    refine sw_cond (h1 := fun hg => ?_) (h2 := fun hg => ?_)
    focus
      refine sw_seq ?_
      refine sw_region ?_
    rotate_left 1
    focus
      refine sw_skip ?_
      refine sp_then ?_
      refine sw_seq ?_
      refine sw_region ?_
      refine r_move (k := ?_)
    rotate_left 1
  rotate_left 2
  any_goals refine r_call1 c_wakes (by exact rfl) (by exact rfl) (by exact rfl) (by simp) (by exact rfl) ?_
  focus
    refine r_assign (k := ?_)
    refine sl_nil ?_
    refine sp_then ?_
    refine sw_ret ?_
    refine sp_then_ret ?_
  rotate_left 1
  focus
    refine r_assign (k := ?_)
    refine sl_nil ?_
    refine sp_then ?_
    refine sw_ret ?_
    refine sp_then_ret ?_
  rotate_left 1
  rotate_left 1
  any_goals (refine sp_retv rfl rfl (.tmp rfl) rfl rfl ⟨rfl, rfl, rfl⟩ (by simp) rfl (by simp); done)
  refine r_call1 (c_newest GW ba cap L hn) (by exact rfl) (by exact rfl) (by exact rfl) (by simp) (by exact rfl) ?_
  refine r_assign (k := ?_)
  refine sl_nil ?_
  refine sp_then ?_
  refine sw_seq ?_
  refine sw_seq ?_
  refine sw_region ?_
  refine r_move (k := ?_)
  refine r_len (k := ?_)
  refine r_eql (k := ?_)
  refine sl_nil ?_
  refine sp_then ?_
  refine sw_cond rfl (fun h => ?_) (fun h => ?_)
  · have h := of_decide_eq_true h
    have h0 : newI L L.length = -1 := by
      have : L.length = 0 := by omega
      rw [this]; rfl
    refine w_re (t := 5) (v' := vi (-1)) rfl (by rw [h0]) ?_
    refine sw_seq ?_
    refine sw_region ?_
    refine r_move (k := ?_)
    refine r_eql (k := ?_)
    refine r_move (k := ?_)
    refine r_re (t := 24) (v' := vb true) rfl rfl ?_
    refine gd_yes (k := ?_)
    refine r_call1 c_wakes (by exact rfl) (by exact rfl) (by exact rfl) (by simp) (by exact rfl) ?_
    refine rd_pick_t (k := ?_)
    refine r_assign (k := ?_)
    refine sl_nil ?_
    refine sp_then ?_
    refine sw_ret ?_
    refine sp_then_ret ?_
    refine sp_retv rfl rfl (.tmp rfl) rfl rfl ⟨rfl, rfl, rfl⟩ (by simp) rfl (by simp)
  have h := of_decide_eq_false h
  obtain ⟨a, ha, han, hle, hlt⟩ := newI_spec L L.length (by omega)
  rw [ha]
  have hg21 : L.length ≤ 20 := by
    have hgr : greatV L = false := by assumption
    simp only [greatV, Bool.or_eq_false_iff, decide_eq_false_iff_not] at hgr
    omega
  have htx : tx.toNat ≤ 1073741824 := by have := of_decide_eq_false hg; omega
  have hta := ancsV_tx L a han
  have haL := txN_at L a han
  refine sw_skip ?_
  refine sp_then ?_
  refine sw_seq ?_
  refine sw_seq ?_
  refine sw_region ?_
  refine r_move (k := ?_)
  refine r_lss (k := ?_)
  refine r_move (k := ?_)
  refine g_part (h1 := fun hg => ?_) (h2 := fun hg => ?_)
  focus
    refine gd_no (k := ?_)
    refine gd_no (k := ?_)
    refine gd_no (k := ?_)
    refine gd_no (k := ?_)
    refine rd_pick_t (k := ?_)
    refine sl_nil ?_
    refine sp_then ?_
    refine swd_t (h := ?_)
    refine sw_seq ?_
    refine sw_region ?_
    refine r_assign (k := ?_)
    refine sl_nil ?_
    refine sp_then ?_
    refine sw_ret ?_
    refine sp_then_ret ?_
  rotate_left 1
  focus
    refine gd_yes (k := ?_)
    refine r_move (k := ?_)
    refine gd_yes (k := ?_)
    refine r_move (k := ?_)
    refine gd_yes (k := ?_)
    refine r_len (k := ?_)
    refine gd_yes (k := ?_)
    refine r_geq (k := ?_)
    refine rd_pick_f (k := ?_)
    refine sl_nil ?_
    refine sp_then ?_
    refine sw_cond (h1 := fun hg => ?_) (h2 := fun hg => ?_)
    focus
      refine sw_seq ?_
      refine sw_region ?_
      refine r_assign (k := ?_)
      refine sl_nil ?_
      refine sp_then ?_
      refine sw_ret ?_
      refine sp_then_ret ?_
    rotate_left 1
    focus
      refine sw_skip ?_
      refine sp_then ?_
      refine sw_seq ?_
      refine sw_seq ?_
      refine sw_region ?_
      refine r_assign (k := ?_)
      refine sl_nil ?_
      refine sp_then ?_
      refine sw_block ?_
    rotate_left 1
  rotate_left 2
  · have hg := of_decide_eq_true (by assumption : decide ((a : Int) < 0) = true)
    omega
  · have hg := of_decide_eq_true (by assumption : decide ((L.length : Int) ≤ (a : Int)) = true)
    omega
  refine sw_loop (ι := { i : Nat // i ≤ L.length }) (fun i => [(0, .slice ba L.length cap), (1, v32 tx), (5, vi (a : Int)), (6, vi (i.1 : Int)), (4, vb false)]) (fun _ => []) (fun _ => [Res.mem ba (ancsV L)]) (fun _ => []) (fun i => L.length - i.1) ⟨0, by omega⟩ ?_ fun i => ?_
  · exact Ent.mk' (by repeat' (first | trivial | exact rfl | apply And.intro)) (by repeat' (first | trivial | exact .head _ | exact .tail _ (.head _) | exact .tail _ (.tail _ (.head _)) | exact .tail _ (.tail _ (.tail _ (.head _))) | exact .tail _ (.tail _ (.tail _ (.tail _ (.head _)))) | exact .tail _ (.tail _ (.tail _ (.tail _ (.tail _ (.head _))))) | exact .tail _ (.tail _ (.tail _ (.tail _ (.tail _ (.tail _ (.head _)))))) | exact .tail _ (.tail _ (.tail _ (.tail _ (.tail _ (.tail _ (.tail _ (.head _))))))) | exact .tail _ (.tail _ (.tail _ (.tail _ (.tail _ (.tail _ (.tail _ (.tail _ (.head _)))))))) | exact .tail _ (.tail _ (.tail _ (.tail _ (.tail _ (.tail _ (.tail _ (.tail _ (.tail _ (.head _))))))))) | exact .tail _ (.tail _ (.tail _ (.tail _ (.tail _ (.tail _ (.tail _ (.tail _ (.tail _ (.tail _ (.head _)))))))))) | exact .tail _ (.tail _ (.tail _ (.tail _ (.tail _ (.tail _ (.tail _ (.tail _ (.tail _ (.tail _ (.tail _ (.head _))))))))))) | apply And.intro))
  obtain ⟨i, hi⟩ := i
  dsimp only
  refine sw_seq ?_
  refine sw_seq ?_
  refine sw_region ?_
  refine r_move (k := ?_)
  refine r_move (k := ?_)
  refine r_len (k := ?_)
  refine r_lss (k := ?_)
  refine sl_nil ?_
  refine sp_then ?_
  refine sw_cond rfl (fun h => ?_) (fun h => ?_)
  · have h := of_decide_eq_true h
    have hi' : i < L.length := by omega
    have hti := ancsV_tx L i hi'
    have hiL := txN_at L i hi'
    have h1 := hle i hi'
    refine sw_skip ?_
    refine sp_then ?_
    refine sw_seq ?_
    refine sw_block ?_
    refine sw_seq ?_
    
    refine sw_draw [] [Res.mem ba (ancsV L)] [0, 1, 2, 3, 4, 5, 6, 7, 8, 9, 10, 11, 12, 13, 14, 15, 16, 17, 18, 19, 20, 21, 22, 23, 24, 25, 26, 27, 28] mix (by kernel_rfl) rfl ?_
    refine ra_first 0 [] [1, 2, 3, 4, 5, 6, 7, 8, 9, 10, 11, 12, 13, 14, 15, 16, 17, 18, 19, 20, 21, 22, 23, 24, 25, 26, 27, 28] (hq := by exact q_move) (k := ?_)
    refine ra_first 1 [] [2, 3, 4, 5, 6, 7, 8, 9, 10, 11, 12, 13, 14, 15, 16, 17, 18, 19, 20, 21, 22, 23, 24, 25, 26, 27, 28] (hq := by exact q_move) (k := ?_)
    refine ra_first 2 [] [3, 4, 5, 6, 7, 8, 9, 10, 11, 12, 13, 14, 15, 16, 17, 18, 19, 20, 21, 22, 23, 24, 25, 26, 27, 28] (hq := by exact q_idx (i := i) (cs := ancsV L) (by exact tl rfl) (by exact rfl) (by exact rfl) (by omega) (by omega) (.head _) (by omega) (by exact rfl) (by exact Int.toNat_natCast _)) (k := ?_)
    refine ra_first 3 [] [4, 5, 6, 7, 8, 9, 10, 11, 12, 13, 14, 15, 16, 17, 18, 19, 20, 21, 22, 23, 24, 25, 26, 27, 28] (hq := by exact q_fieldAddr_mem (o := i * 14) (cs := ancsV L) (by exact tf rfl rfl) (by exact rfl) (by exact rfl) (.head _) (by omega)) (k := ?_)
    refine ra_first 4 [] [5, 6, 7, 8, 9, 10, 11, 12, 13, 14, 15, 16, 17, 18, 19, 20, 21, 22, 23, 24, 25, 26, 27, 28] (hq := by exact q_load_mem1 (o := i * 14 + 0) (v := v32 L[i].tx) (cs := ancsV L) (by exact tz rfl) (by exact rfl) (.head _) hti) (k := ?_)
    refine ra_first 5 [] [6, 7, 8, 9, 10, 11, 12, 13, 14, 15, 16, 17, 18, 19, 20, 21, 22, 23, 24, 25, 26, 27, 28] (hq := by exact q_move) (k := ?_)
    refine ra_first 6 [] [7, 8, 9, 10, 11, 12, 13, 14, 15, 16, 17, 18, 19, 20, 21, 22, 23, 24, 25, 26, 27, 28] (hq := by exact q_move) (k := ?_)
    refine ra_first 7 [] [8, 9, 10, 11, 12, 13, 14, 15, 16, 17, 18, 19, 20, 21, 22, 23, 24, 25, 26, 27, 28] (hq := by exact q_idx (i := a) (cs := ancsV L) (by exact tl rfl) (by exact rfl) (by exact rfl) (by omega) (by omega) (.head _) (by omega) (by exact rfl) (by exact Int.toNat_natCast _)) (k := ?_)
    refine ra_first 8 [] [9, 10, 11, 12, 13, 14, 15, 16, 17, 18, 19, 20, 21, 22, 23, 24, 25, 26, 27, 28] (hq := by exact q_fieldAddr_mem (o := a * 14) (cs := ancsV L) (by exact tf rfl rfl) (by exact rfl) (by exact rfl) (.head _) (by omega)) (k := ?_)
    refine ra_first 9 [] [10, 11, 12, 13, 14, 15, 16, 17, 18, 19, 20, 21, 22, 23, 24, 25, 26, 27, 28] (hq := by exact q_load_mem1 (o := a * 14 + 0) (v := v32 L[a].tx) (cs := ancsV L) (by exact tz rfl) (by exact rfl) (.head _) hta) (k := ?_)
    refine ra_first 10 [] [11, 12, 13, 14, 15, 16, 17, 18, 19, 20, 21, 22, 23, 24, 25, 26, 27, 28] (hq := by exact q_gtr) (k := ?_)
    refine ra_first 11 [] [12, 13, 14, 15, 16, 17, 18, 19, 20, 21, 22, 23, 24, 25, 26, 27, 28] (hq := by exact q_move) (k := ?_)
    refine ra_part (t := 52) rfl (fun hat => ?_) (fun hat => ?_)
    · have hat := of_decide_eq_true hat
      omega
    
    refine ra_firstg 12 [] [13, 14, 15, 16, 17, 18, 19, 20, 21, 22, 23, 24, 25, 26, 27, 28] (hq := by exact q_move) (k := ?_)
    refine ra_firstg 13 [] [14, 15, 16, 17, 18, 19, 20, 21, 22, 23, 24, 25, 26, 27, 28] (hq := by exact q_move) (k := ?_)
    refine ra_firstg 14 [] [15, 16, 17, 18, 19, 20, 21, 22, 23, 24, 25, 26, 27, 28] (hq := by exact q_lss) (k := ?_)
    refine ra_firstg 15 [] [16, 17, 18, 19, 20, 21, 22, 23, 24, 25, 26, 27, 28] (hq := by exact q_move) (k := ?_)
    
    refine ra_part (t := 56) rfl (fun hia => ?_) (fun hia => ?_)
    · have hia := of_decide_eq_true hia
      have h2 := hlt i (by omega)
      
      refine ra_firstg 16 [] [17, 18, 19, 20, 21, 22, 23, 24, 25, 26, 27, 28] (hq := by exact q_move) (k := ?_)
      refine ra_firstg 17 [] [18, 19, 20, 21, 22, 23, 24, 25, 26, 27, 28] (hq := by exact q_move) (k := ?_)
      refine ra_firstg 18 [] [19, 20, 21, 22, 23, 24, 25, 26, 27, 28] (hq := by exact q_idx (i := i) (cs := ancsV L) (by exact tl rfl) (by exact rfl) (by exact rfl) (by omega) (by omega) (.head _) (by omega) (by exact rfl) (by exact Int.toNat_natCast _)) (k := ?_)
      refine ra_firstg 19 [] [20, 21, 22, 23, 24, 25, 26, 27, 28] (hq := by exact q_fieldAddr_mem (o := i * 14) (cs := ancsV L) (by exact tf rfl rfl) (by exact rfl) (by exact rfl) (.head _) (by omega)) (k := ?_)
      refine ra_firstg 20 [] [21, 22, 23, 24, 25, 26, 27, 28] (hq := by exact q_load_mem1 (o := i * 14 + 0) (v := v32 L[i].tx) (cs := ancsV L) (by exact tz rfl) (by exact rfl) (.head _) hti) (k := ?_)
      refine ra_firstg 21 [] [22, 23, 24, 25, 26, 27, 28] (hq := by exact q_move) (k := ?_)
      refine ra_firstg 22 [] [23, 24, 25, 26, 27, 28] (hq := by exact q_move) (k := ?_)
      refine ra_firstg 23 [] [24, 25, 26, 27, 28] (hq := by exact q_idx (i := a) (cs := ancsV L) (by exact tl rfl) (by exact rfl) (by exact rfl) (by omega) (by omega) (.head _) (by omega) (by exact rfl) (by exact Int.toNat_natCast _)) (k := ?_)
      refine ra_firstg 24 [] [25, 26, 27, 28] (hq := by exact q_fieldAddr_mem (o := a * 14) (cs := ancsV L) (by exact tf rfl rfl) (by exact rfl) (by exact rfl) (.head _) (by omega)) (k := ?_)
      refine ra_firstg 25 [] [26, 27, 28] (hq := by exact q_load_mem1 (o := a * 14 + 0) (v := v32 L[a].tx) (cs := ancsV L) (by exact tz rfl) (by exact rfl) (.head _) hta) (k := ?_)
      refine ra_firstg 26 [] [27, 28] (hq := by exact q_eql) (k := ?_)
      refine ra_firstg 27 [] [28] (hq := by first | exact q_pick_t | exact q_pick_f) (k := ?_)
      refine ra_first 28 [] [] (hq := by first | exact q_pick_t | exact q_pick_f) (k := ?_)
      refine ra_done ?_
      refine sp_then ?_
      refine w_re (t := 69) (v' := vb false) rfl (by rw [show decide ((L[i].tx.toNat : Int) = (L[a].tx.toNat : Int)) = false from decide_eq_false (by omega)]) ?_
      refine swd_f (h := ?_)
      refine sw_skip ?_
      refine sp_block ?_
      refine sp_then ?_
      refine sw_region ?_
      refine r_move (k := ?_)
      refine r_add64 (k := ?_)
      refine r_assign (k := ?_)
      refine sl_nil ?_
      refine sp_loop (ι := { i : Nat // i ≤ L.length }) ⟨i + 1, by omega⟩ ?_ ?_
      · dsimp only; omega
      · exact Ent.mk' (by repeat' (first | trivial | exact rfl | apply And.intro)) (by repeat' (first | trivial | exact .head _ | exact .tail _ (.head _) | exact .tail _ (.tail _ (.head _)) | exact .tail _ (.tail _ (.tail _ (.head _))) | exact .tail _ (.tail _ (.tail _ (.tail _ (.head _)))) | exact .tail _ (.tail _ (.tail _ (.tail _ (.tail _ (.head _))))) | exact .tail _ (.tail _ (.tail _ (.tail _ (.tail _ (.tail _ (.head _)))))) | exact .tail _ (.tail _ (.tail _ (.tail _ (.tail _ (.tail _ (.tail _ (.head _))))))) | exact .tail _ (.tail _ (.tail _ (.tail _ (.tail _ (.tail _ (.tail _ (.tail _ (.head _)))))))) | exact .tail _ (.tail _ (.tail _ (.tail _ (.tail _ (.tail _ (.tail _ (.tail _ (.tail _ (.head _))))))))) | exact .tail _ (.tail _ (.tail _ (.tail _ (.tail _ (.tail _ (.tail _ (.tail _ (.tail _ (.tail _ (.head _)))))))))) | exact .tail _ (.tail _ (.tail _ (.tail _ (.tail _ (.tail _ (.tail _ (.tail _ (.tail _ (.tail _ (.tail _ (.head _))))))))))) | apply And.intro))
    · 
      
      refine ra_skip 16 [17, 18, 19, 20, 21, 22, 23, 24, 25, 26, 27, 28] (k := ?_)
      refine ra_skip 17 [18, 19, 20, 21, 22, 23, 24, 25, 26, 27, 28] (k := ?_)
      refine ra_skip 18 [19, 20, 21, 22, 23, 24, 25, 26, 27, 28] (k := ?_)
      refine ra_skip 19 [20, 21, 22, 23, 24, 25, 26, 27, 28] (k := ?_)
      refine ra_skip 20 [21, 22, 23, 24, 25, 26, 27, 28] (k := ?_)
      refine ra_skip 21 [22, 23, 24, 25, 26, 27, 28] (k := ?_)
      refine ra_skip 22 [23, 24, 25, 26, 27, 28] (k := ?_)
      refine ra_skip 23 [24, 25, 26, 27, 28] (k := ?_)
      refine ra_skip 24 [25, 26, 27, 28] (k := ?_)
      refine ra_skip 25 [26, 27, 28] (k := ?_)
      refine ra_skip 26 [27, 28] (k := ?_)
      refine ra_firstg 27 [] [28] (hq := by first | exact q_pick_t | exact q_pick_f) (k := ?_)
      refine ra_first 28 [] [] (hq := by first | exact q_pick_t | exact q_pick_f) (k := ?_)
      refine ra_done ?_
      refine sp_then ?_
      refine swd_f (h := ?_)
      refine sw_skip ?_
      refine sp_block ?_
      refine sp_then ?_
      refine sw_region ?_
      refine r_move (k := ?_)
      refine r_add64 (k := ?_)
      refine r_assign (k := ?_)
      refine sl_nil ?_
      refine sp_loop (ι := { i : Nat // i ≤ L.length }) ⟨i + 1, by omega⟩ ?_ ?_
      · dsimp only; omega
      · exact Ent.mk' (by repeat' (first | trivial | exact rfl | apply And.intro)) (by repeat' (first | trivial | exact .head _ | exact .tail _ (.head _) | exact .tail _ (.tail _ (.head _)) | exact .tail _ (.tail _ (.tail _ (.head _))) | exact .tail _ (.tail _ (.tail _ (.tail _ (.head _)))) | exact .tail _ (.tail _ (.tail _ (.tail _ (.tail _ (.head _))))) | exact .tail _ (.tail _ (.tail _ (.tail _ (.tail _ (.tail _ (.head _)))))) | exact .tail _ (.tail _ (.tail _ (.tail _ (.tail _ (.tail _ (.tail _ (.head _))))))) | exact .tail _ (.tail _ (.tail _ (.tail _ (.tail _ (.tail _ (.tail _ (.tail _ (.head _)))))))) | exact .tail _ (.tail _ (.tail _ (.tail _ (.tail _ (.tail _ (.tail _ (.tail _ (.tail _ (.head _))))))))) | exact .tail _ (.tail _ (.tail _ (.tail _ (.tail _ (.tail _ (.tail _ (.tail _ (.tail _ (.tail _ (.head _)))))))))) | exact .tail _ (.tail _ (.tail _ (.tail _ (.tail _ (.tail _ (.tail _ (.tail _ (.tail _ (.tail _ (.tail _ (.head _))))))))))) | apply And.intro))
  · refine sw_exit ?_
    refine sp_then_exit ?_
    refine sp_loop_exit ?_
    refine sp_block_exit ?_
    refine sp_then ?_
    refine sw_seq ?_
    refine sw_region ?_
    refine r_alloc (by exact z49) (cs := (seenL (tx.toNat % 4) 0).map vb) (by exact rfl) (by exact rfl) fun b7 => ?_
    refine sl_nil ?_
    refine sp_then ?_
    refine sw_seq ?_
    refine sw_seq ?_
    refine sw_region ?_
    refine r_assign (k := ?_)
    refine sl_nil ?_
    refine sp_then ?_
    refine sw_block ?_
    have hof : ∀ i : Nat, i ≤ 4 → (UInt32.ofNat i).toNat = i := fun i hi => by rw [UInt32.toNat_ofNat']; omega
    refine sw_loop (ι := { i : Nat // i ≤ 4 }) (fun i => [(0, .slice ba L.length cap), (1, v32 tx), (7, .pointer (some ⟨b7, 0, none⟩)), (8, v32 (UInt32.ofNat i.1)), (4, vb false)]) (fun i => [.box b7 ((seenL (tx.toNat % 4) i.1).map vb) 49]) (fun _ => [Res.mem ba (ancsV L)]) (fun _ => []) (fun i => 4 - i.1) ⟨0, by omega⟩ ?_ fun i => ?_
    · exact Ent.mk' (by repeat' (first | trivial | exact rfl | apply And.intro)) (by repeat' (first | trivial | exact .head _ | exact .tail _ (.head _) | exact .tail _ (.tail _ (.head _)) | exact .tail _ (.tail _ (.tail _ (.head _))) | exact .tail _ (.tail _ (.tail _ (.tail _ (.head _)))) | exact .tail _ (.tail _ (.tail _ (.tail _ (.tail _ (.head _))))) | exact .tail _ (.tail _ (.tail _ (.tail _ (.tail _ (.tail _ (.head _)))))) | exact .tail _ (.tail _ (.tail _ (.tail _ (.tail _ (.tail _ (.tail _ (.head _))))))) | exact .tail _ (.tail _ (.tail _ (.tail _ (.tail _ (.tail _ (.tail _ (.tail _ (.head _)))))))) | exact .tail _ (.tail _ (.tail _ (.tail _ (.tail _ (.tail _ (.tail _ (.tail _ (.tail _ (.head _))))))))) | exact .tail _ (.tail _ (.tail _ (.tail _ (.tail _ (.tail _ (.tail _ (.tail _ (.tail _ (.tail _ (.head _)))))))))) | exact .tail _ (.tail _ (.tail _ (.tail _ (.tail _ (.tail _ (.tail _ (.tail _ (.tail _ (.tail _ (.tail _ (.head _))))))))))) | apply And.intro))
    obtain ⟨i, hi⟩ := i
    have hoi := hof i hi
    dsimp only
    refine sw_seq ?_
    refine sw_seq ?_
    refine sw_region ?_
    refine r_move (k := ?_)
    refine r_lss (k := ?_)
    refine sl_nil ?_
    refine sp_then ?_
    refine sw_cond rfl (fun h => ?_) (fun h => ?_)
    · have h := of_decide_eq_true h
      have hi4 : i < 4 := by rw [hoi] at h; omega
      obtain ⟨s, hs⟩ : ∃ s, s = (tx.toNat % 4 + i) % 4 := ⟨_, rfl⟩
      have hs4 : s < 4 := by omega
      have hat := seenL_at (tx.toNat % 4) (by omega) i hi4
      have hset := seenL_set (tx.toNat % 4) (by omega) i hi4
      have hsl := slot_add tx (UInt32.ofNat i) htx (by omega)
      have hln := seenL_len (tx.toNat % 4) i
      rw [hoi, ← hs] at hsl
      rw [← hs] at hat hset
      refine sw_skip ?_
      refine sp_then ?_
      refine sw_seq ?_
      refine sw_block ?_
      refine sw_seq ?_
      refine sw_region ?_
      refine r_move (k := ?_)
      refine r_move (k := ?_)
      refine r_add32 (k := ?_)
      refine r_call1 (c_slot GW (tx + UInt32.ofNat i)) (by exact rfl) (by exact rfl) (by exact rfl) (by simp) (by exact rfl) ?_
      rw [hsl]
      refine r_assign (k := ?_)
      refine sl_nil ?_
      refine sp_then ?_
      refine sw_seq ?_
      refine sw_seq ?_
      refine sw_region ?_
      refine r_move (k := ?_)
      refine r_lss (k := ?_)
      refine r_move (k := ?_)
      refine r_re (t := 80) (v' := vb false) rfl (by rw [decide_eq_false (by omega)]) ?_
      refine gd_yes (k := ?_)
      refine r_move (k := ?_)
      refine gd_yes (k := ?_)
      refine r_geq (k := ?_)
      refine rd_pick_f (k := ?_)
      refine r_move (k := ?_)
      refine r_re (t := 84) (v' := vb false) rfl (by rw [decide_eq_false (by omega)]) ?_
      refine gd_yes (k := ?_)
      refine r_move (k := ?_)
      refine gd_yes (k := ?_)
      refine r_idx_arr (k := ?_)
      refine gd_yes (k := ?_)
      refine r_load_one (cs := (seenL (tx.toNat % 4) i).map vb) (v := vb false) (by exact tz rfl) (by exact rfl) (by first | exact .head _ | exact .tail _ (.head _) | exact .tail _ (.tail _ (.head _)) | exact .tail _ (.tail _ (.tail _ (.head _))) | exact .tail _ (.tail _ (.tail _ (.tail _ (.head _)))) | exact .tail _ (.tail _ (.tail _ (.tail _ (.tail _ (.head _))))) | exact .tail _ (.tail _ (.tail _ (.tail _ (.tail _ (.tail _ (.head _)))))) | exact .tail _ (.tail _ (.tail _ (.tail _ (.tail _ (.tail _ (.tail _ (.head _))))))) | exact .tail _ (.tail _ (.tail _ (.tail _ (.tail _ (.tail _ (.tail _ (.tail _ (.head _)))))))) | exact .tail _ (.tail _ (.tail _ (.tail _ (.tail _ (.tail _ (.tail _ (.tail _ (.tail _ (.head _))))))))) | exact .tail _ (.tail _ (.tail _ (.tail _ (.tail _ (.tail _ (.tail _ (.tail _ (.tail _ (.tail _ (.head _)))))))))) | exact .tail _ (.tail _ (.tail _ (.tail _ (.tail _ (.tail _ (.tail _ (.tail _ (.tail _ (.tail _ (.tail _ (.head _)))))))))))) (by rw [List.getElem?_map, Nat.zero_add, Nat.mul_one, hat]; rfl) (by exact rfl) ?_
      refine rd_pick_f (k := ?_)
      refine sl_nil ?_
      refine sp_then ?_
      refine swd_f (h := ?_)
      refine sw_skip ?_
      refine sp_then ?_
      refine sw_region ?_
      refine r_move (k := ?_)
      refine r_idx_arr (k := ?_)
      refine r_store1 (cs := (seenL (tx.toNat % 4) i).map vb) (by exact tz rfl) (by exact rfl) (by exact rfl) (by exact rfl) rfl (by first | exact .hd | exact .tl (.hd) | exact .tl (.tl (.hd)) | exact .tl (.tl (.tl (.hd))) | exact .tl (.tl (.tl (.tl (.hd)))) | exact .tl (.tl (.tl (.tl (.tl (.hd))))) | exact .tl (.tl (.tl (.tl (.tl (.tl (.hd)))))) | exact .tl (.tl (.tl (.tl (.tl (.tl (.tl (.hd))))))) | exact .tl (.tl (.tl (.tl (.tl (.tl (.tl (.tl (.hd)))))))) | exact .tl (.tl (.tl (.tl (.tl (.tl (.tl (.tl (.tl (.hd))))))))) | exact .tl (.tl (.tl (.tl (.tl (.tl (.tl (.tl (.tl (.tl (.hd)))))))))) | exact .tl (.tl (.tl (.tl (.tl (.tl (.tl (.tl (.tl (.tl (.tl (.hd)))))))))))) (by simp [Nat.blt_eq, hln]; omega) rfl ?_
      refine sl_nil ?_
      refine sp_block ?_
      refine sp_then ?_
      refine sw_region ?_
      refine r_move (k := ?_)
      refine r_add32c (k := ?_)
      refine r_assign (k := ?_)
      refine sl_nil ?_
      refine sp_eqB (B' := [.box b7 ((seenL (tx.toNat % 4) (i + 1)).map vb) 49]) (by rw [← hset, List.map_set, Nat.zero_add, Nat.mul_one]) ?_
      refine sp_re (t := 8) (v' := v32 (UInt32.ofNat (i + 1))) rfl ?_ ?_
      · rw [show UInt32.ofNat i + UInt32.ofNat 1 = UInt32.ofNat (i + 1) from UInt32.toNat_inj.1 (by rw [UInt32.toNat_add, hof i hi, hof 1 (by omega), hof (i + 1) (by omega)]; omega)]
      refine sp_loop (ι := { i : Nat // i ≤ 4 }) ⟨i + 1, by omega⟩ ?_ ?_
      · dsimp only; omega
      · exact Ent.mk' (by repeat' (first | trivial | exact rfl | apply And.intro)) (by repeat' (first | trivial | exact .head _ | exact .tail _ (.head _) | exact .tail _ (.tail _ (.head _)) | exact .tail _ (.tail _ (.tail _ (.head _))) | exact .tail _ (.tail _ (.tail _ (.tail _ (.head _)))) | exact .tail _ (.tail _ (.tail _ (.tail _ (.tail _ (.head _))))) | exact .tail _ (.tail _ (.tail _ (.tail _ (.tail _ (.tail _ (.head _)))))) | exact .tail _ (.tail _ (.tail _ (.tail _ (.tail _ (.tail _ (.tail _ (.head _))))))) | exact .tail _ (.tail _ (.tail _ (.tail _ (.tail _ (.tail _ (.tail _ (.tail _ (.head _)))))))) | exact .tail _ (.tail _ (.tail _ (.tail _ (.tail _ (.tail _ (.tail _ (.tail _ (.tail _ (.head _))))))))) | exact .tail _ (.tail _ (.tail _ (.tail _ (.tail _ (.tail _ (.tail _ (.tail _ (.tail _ (.tail _ (.head _)))))))))) | exact .tail _ (.tail _ (.tail _ (.tail _ (.tail _ (.tail _ (.tail _ (.tail _ (.tail _ (.tail _ (.tail _ (.head _))))))))))) | apply And.intro))
    · refine sw_exit ?_
      refine sp_then_exit ?_
      refine sp_loop_exit ?_
      refine sp_block_exit ?_
      refine sp_then ?_
      refine sw_seq ?_
      refine sw_region ?_
      refine r_move (k := ?_)
      refine r_add32c (k := ?_)
      refine r_call1 (c_slot GW _) (by exact rfl) (by exact rfl) (by exact rfl) (by simp) (by exact rfl) ?_
      refine r_move (k := ?_)
      refine r_call1 (c_slot GW tx) (by exact rfl) (by exact rfl) (by exact rfl) (by simp) (by exact rfl) ?_
      refine r_eql (k := ?_)
      refine r_move (k := ?_)
      have e4 := slot_add tx (UInt32.ofNat 4) htx (by rw [hof 4 (by omega)]; omega)
      rw [hof 4 (by omega)] at e4
      have e0 : (tx % 4).toNat = tx.toNat % 4 := by rw [UInt32.toNat_mod]; rfl
      refine r_re (t := 97) (v' := vb true) rfl (by rw [decide_eq_true (by rw [e4, e0]; omega)]) ?_
      refine gd_yes (k := ?_)
      refine r_call1 c_wakes (by exact rfl) (by exact rfl) (by exact rfl) (by simp) (by exact rfl) ?_
      refine rd_pick_t (k := ?_)
      refine r_assign (k := ?_)
      refine sl_nil ?_
      refine sp_then ?_
      refine sw_ret ?_
      refine sp_retv rfl rfl (.tmp rfl) rfl rfl ⟨rfl, rfl, rfl⟩ (by simp) rfl (by simp)
end Go.Proofs.YtjahiohlekdhoaaDoor
