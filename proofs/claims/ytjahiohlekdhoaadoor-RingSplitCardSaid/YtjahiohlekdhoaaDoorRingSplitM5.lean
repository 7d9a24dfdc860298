/-
  The walk of anchor.Newest.
  The walks of suturelaw09's small functions, and of the document's Same, Alike.
  What an argument that was read looks like: bytes, pointers, marks, anchors, pages.
  The engine, part 16: more on whole numbers.
  The engine, part 17: 'for x := range seq { .. yield(..) .. }' within an iterator; the ends of iterators that have marks.
  The engine, part 18: slices that are made; rows of one's own that are stored into.
  Disks: what their cells are.
  The readings of the ring laws' parameters.
  The walks of package vdev: disks copied, which may be.
  The walks of package vdev: which disks may be, which places.
  The walks of package vdev: places, writes.
  The walks of slices.Backward over writes, slices.Contains of places.
-/
import Derived.Test.YtjahiohlekdhoaaDoorRingSplitM4
import Derived.Test.YtjahiohlekdhoaaDoorRingSplitM3
namespace Go.Proofs.YtjahiohlekdhoaaDoor
open Go
set_option maxHeartbeats 4000000
set_option maxRecDepth 4000
attribute [local irreducible] SW SL SP RA Then FQ IQ LoopQ RQ AQ NX CutQ Exit.noGoto

def ancsV (L : List AncV) : List Value := L.flatMap AncV.cs
theorem ancsV_len (L : List AncV) : (ancsV L).length = L.length * 14 := by
  induction L with
  | nil => rfl
  | cons a l ih => simp only [ancsV, List.flatMap_cons, List.length_append, List.length_cons] at ih ⊢; rw [ih]; simp [AncV.cs]; omega
theorem ancsV_drop : ∀ (L : List AncV) (i : Nat), (ancsV L).drop (i * 14) = ancsV (L.drop i)
  | [], i => by simp [ancsV]
  | a :: l, 0 => by simp
  | a :: l, i + 1 => by
    have h : (i + 1) * 14 = a.cs.length + i * 14 := by simp [AncV.cs]; omega
    rw [h, ← List.drop_drop]
    show List.drop (i * 14) (List.drop a.cs.length (a.cs ++ ancsV l)) = _
    rw [List.drop_left, ancsV_drop l i]; rfl
theorem ancsV_at (L : List AncV) (i : Nat) (h : i < L.length) : part' (ancsV L) (i * 14) 14 = L[i].cs := by
  rw [part', ancsV_drop, drop_cons L i h]
  show List.take L[i].cs.length (L[i].cs ++ ancsV (L.drop (i + 1))) = _
  rw [List.take_left]
theorem ancsV_tx (L : List AncV) (i : Nat) (h : i < L.length) : (ancsV L)[i * 14]? = some (v32 L[i].tx) := by
  have h1 := ancsV_at L i h
  have h2 : (part' (ancsV L) (i * 14) 14)[0]? = some (v32 L[i].tx) := by rw [h1]; rfl
  have := (part'_get h2).2
  simpa using this

/-- The place of the newest of the first ones. -/
def newI (L : List AncV) : Nat → Int
  | 0 => -1
  | i + 1 => if newI L i < 0 then (i : Int) else if (((L[(newI L i).toNat]?).map (·.tx.toNat)).getD 0 : Int) < (((L[i]?).map (·.tx.toNat)).getD 0 : Int) then (i : Int) else newI L i
theorem newI_bound (L : List AncV) : ∀ i, -1 ≤ newI L i ∧ newI L i < i
  | 0 => by simp [newI]
  | i + 1 => by
    have := newI_bound L i
    unfold newI
    split
    · omega
    · split <;> omega

theorem c_newest (G : Res) (ba : Option Addr) (cap : Nat) (L : List AncV) (hn : L.length ≤ maxLen) : Ctr Tryd.prog G 18 [.slice ba L.length cap] [] [Res.mem ba (ancsV L)] (ret1 (vi (newI L L.length))) := by
  have hn' : L.length ≤ 9223372036854775807 := hn
  have hal := ancsV_len L
  refine Ctr.intro Tryd.func18 (by kernel_rfl) rfl Tryd.ntmps18 rfl rfl rfl fun w X => ?_
  refine sw_seq ?_
  refine sw_region ?_
  refine r_assign (k := ?_)
  refine sl_nil ?_
  refine sp_then ?_
  refine sw_seq ?_
  refine sw_region ?_
  refine r_assign (k := ?_)
  refine sl_nil ?_
  refine sp_then ?_
  refine sw_seq ?_
  refine sw_seq ?_
  refine sw_region ?_
  refine r_move (k := ?_)
  refine r_len (k := ?_)
  refine r_move (k := ?_)
  refine sl_nil ?_
  refine sp_then ?_
  refine sw_block ?_
  refine sw_loop (ι := { i : Nat // i ≤ L.length }) (fun i => [(0, .slice ba L.length cap), (2, vi (newI L i.1)), (5, .slice ba L.length cap), (6, vi (L.length : Int)), (7, vi (i.1 : Int))]) (fun _ => []) (fun _ => [Res.mem ba (ancsV L)]) (fun _ => []) (fun i => L.length - i.1) ⟨0, by omega⟩ ?_ fun i => ?_
  · exact Ent.mk' (by repeat' (first | trivial | exact rfl | apply And.intro)) (by repeat' (first | trivial | exact .head _ | apply And.intro | apply List.Mem.tail))
  obtain ⟨i, hi⟩ := i
  dsimp only
  refine sw_seq ?_
  refine sw_region ?_
  refine r_lss (k := ?_)
  refine sl_nil ?_
  refine sp_then ?_
  refine sw_seq ?_
  refine sw_cond rfl (fun h => ?_) (fun h => ?_)
  · have h := of_decide_eq_true h
    have hi' : i < L.length := by omega
    have hbd := newI_bound L i
    refine sw_skip ?_
    refine sp_then ?_
    refine sw_seq ?_
    refine sw_block ?_
    refine sw_seq ?_
    refine sw_region ?_
    refine r_move (k := ?_)
    refine r_idx (by exact tl rfl) (by exact rfl) (by exact rfl) (by omega) (by omega) (by iterate 24 (first | exact .head _ | apply List.Mem.tail | skip)) (by omega) (by exact rfl) (by exact Int.toNat_natCast _) (by exact rfl) ?_
    refine r_load_mem (vs := L[i].cs) (by exact tz rfl) (by exact rfl) (by iterate 24 (first | exact .head _ | apply List.Mem.tail | skip)) (ancsV_at L i hi') rfl rfl (by exact rfl) ?_
    refine r_alloc (by exact z32) (by exact rfl) (by exact rfl) fun b4 => ?_
    refine r_assign (k := ?_)
    refine r_store_all (k := ?_)
    refine sl_nil ?_
    refine sp_then ?_
    refine sw_seq ?_
    refine sw_draw [(none, .box b4 L[i].cs 32)] [Res.mem ba (ancsV L)] [0, 1, 2, 3, 4, 5, 6, 7, 8, 9, 10, 11] mix (by kernel_rfl) rfl ?_
    refine ra_first 0 [] [1, 2, 3, 4, 5, 6, 7, 8, 9, 10, 11] (hq := by exact q_move) (k := ?_)
    refine ra_first 1 [] [2, 3, 4, 5, 6, 7, 8, 9, 10, 11] (hq := by exact q_lss) (k := ?_)
    refine ra_first 2 [] [3, 4, 5, 6, 7, 8, 9, 10, 11] (hq := by exact q_move) (k := ?_)
    
    refine ra_part (t := 14) rfl (fun hat => ?_) (fun hat => ?_)
    · have hat := of_decide_eq_true hat
      have e : newI L (i + 1) = (i : Int) := by rw [newI, if_pos hat]
      refine ra_skip 3 [4, 5, 6, 7, 8, 9, 10, 11] (k := ?_)
      refine ra_skip 4 [5, 6, 7, 8, 9, 10, 11] (k := ?_)
      refine ra_skip 5 [6, 7, 8, 9, 10, 11] (k := ?_)
      refine ra_skip 6 [7, 8, 9, 10, 11] (k := ?_)
      refine ra_skip 7 [8, 9, 10, 11] (k := ?_)
      refine ra_skip 8 [9, 10, 11] (k := ?_)
      refine ra_skip 9 [10, 11] (k := ?_)
      refine ra_skip 10 [11] (k := ?_)
      refine ra_first 11 [] [] (hq := by first | exact q_pick_t | exact q_pick_f) (k := ?_)
      refine ra_done ?_
      refine sp_then ?_
      refine swd_t (h := ?_)
      refine sw_region ?_
      refine r_move (k := ?_)
      refine r_assign (k := ?_)
      refine sl_nil ?_
      refine sp_block ?_
      refine sp_then ?_
      refine sw_region ?_
      refine r_add64 (k := ?_)
      refine r_move (k := ?_)
      refine sl_nil ?_
      refine sp_drop rfl ?_
      refine sp_re (t := 2) (v' := vi (newI L (i + 1))) rfl (by rw [e]) ?_
      refine sp_loop (ι := { i : Nat // i ≤ L.length }) ⟨i + 1, by omega⟩ ?_ ?_
      · dsimp only; omega
      · exact Ent.mk' (by repeat' (first | trivial | exact rfl | apply And.intro)) (by repeat' (first | trivial | exact .head _ | apply And.intro | apply List.Mem.tail))
    · have hat := of_decide_eq_false hat
      obtain ⟨j, hj⟩ : ∃ j : Nat, newI L i = (j : Int) := ⟨(newI L i).toNat, by omega⟩
      have hjl : j < L.length := by omega
      have hjt : (newI L i).toNat = j := by omega
      
      refine ra_firstg 3 [] [4, 5, 6, 7, 8, 9, 10, 11] (hq := by exact q_fieldAddr) (k := ?_)
      refine ra_firstg 4 [(none, .box b4 L[i].cs 32)] [5, 6, 7, 8, 9, 10, 11] (hq := by first | exact q_load_one | exact q_load_all | exact q_load_fr1 | exact q_load_fr) (k := ?_)
      refine ra_firstg 5 [] [6, 7, 8, 9, 10, 11] (hq := by exact q_move) (k := ?_)
      refine ra_firstg 6 [] [7, 8, 9, 10, 11] (hq := by exact q_move) (k := ?_)
      refine ra_firstg 7 [] [8, 9, 10, 11] (hq := by exact q_idx (i := j) (cs := ancsV L) (by exact tl rfl) (by exact rfl) (by exact rfl) (by omega) (by omega) (.head _) (by omega) (by exact rfl) hjt) (k := ?_)
      refine ra_firstg 8 [] [9, 10, 11] (hq := by exact q_fieldAddr_mem (o := j * 14) (cs := ancsV L) (by exact tf rfl rfl) (by exact rfl) (by exact rfl) (.head _) (by omega)) (k := ?_)
      refine ra_firstg 9 [] [10, 11] (hq := by exact q_load_mem1 (o := j * 14 + 0) (v := v32 L[j].tx) (cs := ancsV L) (by exact tz rfl) (by exact rfl) (.head _) (ancsV_tx L j hjl)) (k := ?_)
      refine ra_firstg 10 [] [11] (hq := by exact q_gtr) (k := ?_)
      refine ra_first 11 [] [] (hq := by first | exact q_pick_t | exact q_pick_f) (k := ?_)
      refine ra_done ?_
      have e : newI L (i + 1) = if (L[j].tx.toNat : Int) < (L[i].tx.toNat : Int) then (i : Int) else newI L i := by
        rw [newI, if_neg hat, hjt]
        simp [hjl, hi']
      refine sp_then ?_
      refine sw_cond rfl (fun h => ?_) (fun h => ?_)
      · have h := of_decide_eq_true h
        refine sw_region ?_
        refine r_move (k := ?_)
        refine r_assign (k := ?_)
        refine sl_nil ?_
        refine sp_block ?_
        refine sp_then ?_
        refine sw_region ?_
        refine r_add64 (k := ?_)
        refine r_move (k := ?_)
        refine sl_nil ?_
        refine sp_drop rfl ?_
        refine sp_re (t := 2) (v' := vi (newI L (i + 1))) rfl (by rw [e, if_pos h]) ?_
        refine sp_loop (ι := { i : Nat // i ≤ L.length }) ⟨i + 1, by omega⟩ ?_ ?_
        · dsimp only; omega
        · exact Ent.mk' (by repeat' (first | trivial | exact rfl | apply And.intro)) (by repeat' (first | trivial | exact .head _ | apply And.intro | apply List.Mem.tail))
      · have h := of_decide_eq_false h
        refine sw_skip ?_
        refine sp_block ?_
        refine sp_then ?_
        refine sw_region ?_
        refine r_add64 (k := ?_)
        refine r_move (k := ?_)
        refine sl_nil ?_
        refine sp_drop rfl ?_
        refine sp_re (t := 2) (v' := vi (newI L (i + 1))) rfl (by rw [e, if_neg h]) ?_
        refine sp_loop (ι := { i : Nat // i ≤ L.length }) ⟨i + 1, by omega⟩ ?_ ?_
        · dsimp only; omega
        · exact Ent.mk' (by repeat' (first | trivial | exact rfl | apply And.intro)) (by repeat' (first | trivial | exact .head _ | apply And.intro | apply List.Mem.tail))
  · have h := of_decide_eq_false h
    obtain rfl : i = L.length := by omega
    refine sw_exit ?_
    refine sp_then_exit ?_
    refine sp_loop_exit ?_
    refine sp_block_exit ?_
    refine sp_then ?_
    refine sw_seq ?_
    refine sw_region ?_
    refine r_move (k := ?_)
    refine r_assign (k := ?_)
    refine sl_nil ?_
    refine sp_then ?_
    refine sw_ret ?_
    refine sp_retv rfl rfl (.tmp rfl) rfl rfl ⟨rfl, rfl, rfl⟩ (by simp) rfl (by simp)
end Go.Proofs.YtjahiohlekdhoaaDoor

namespace Go.Proofs.YtjahiohlekdhoaaDoor
open Go
set_option maxHeartbeats 4000000
set_option maxRecDepth 4000
attribute [local irreducible] SW SL SP RA Then FQ IQ LoopQ RQ AQ NX CutQ Exit.noGoto

theorem c_ralike (G : Res) (a b : MkV) : Ctr Tryd.prog G 29 [a.v, b.v] [] [a.key.res, b.key.res] (ret1 (vb (alikeV a b))) := by
  refine Ctr.intro Tryd.func29 (by kernel_rfl) rfl Tryd.ntmps29 rfl rfl rfl fun w X => ?_
  refine sw_seq ?_
  refine sw_region ?_
  refine r_box (k := fun bx => ?_)
  refine r_box (k := fun bx => ?_)
  refine r_assign (k := ?_)
  refine sl_nil ?_
  refine sp_then ?_
  refine sw_seq ?_
  refine sw_region ?_
  refine r_fieldAddr (k := ?_)
  refine r_load_one (k := ?_)
  refine r_fieldAddr (k := ?_)
  refine r_load_one (k := ?_)
  refine r_eql (k := ?_)
  refine r_move (k := ?_)
  refine g_part (h1 := fun hg => ?_) (h2 := fun hg => ?_)
  focus
    refine gd_yes (k := ?_)
    refine r_fieldAddr (k := ?_)
    refine gd_yes (k := ?_)
    refine r_load_one (k := ?_)
    refine gd_yes (k := ?_)
    refine r_fieldAddr (k := ?_)
    refine gd_yes (k := ?_)
    refine r_load_one (k := ?_)
    refine gd_yes (k := ?_)
    refine r_eql (k := ?_)
    refine rd_pick_t (k := ?_)
    refine r_move (k := ?_)
    refine g_part (h1 := fun hg => ?_) (h2 := fun hg => ?_)
    focus
      refine gd_yes (k := ?_)
      refine r_fieldAddr (k := ?_)
      refine gd_yes (k := ?_)
      refine r_load_one (k := ?_)
      refine gd_yes (k := ?_)
      refine r_fieldAddr (k := ?_)
      refine gd_yes (k := ?_)
      refine r_load_one (k := ?_)
      refine gd_yes (k := ?_)
      refine r_eql (k := ?_)
      refine rd_pick_t (k := ?_)
      refine r_move (k := ?_)
      refine g_part (h1 := fun hg => ?_) (h2 := fun hg => ?_)
      focus
        refine gd_yes (k := ?_)
        refine r_fieldAddr (k := ?_)
        refine gd_yes (k := ?_)
        refine r_load_one (k := ?_)
        refine gd_yes (k := ?_)
      rotate_left 1
      focus
        refine gd_no (k := ?_)
        refine gd_no (k := ?_)
        refine gd_no (k := ?_)
        refine gd_no (k := ?_)
        refine gd_no (k := ?_)
        refine gd_no (k := ?_)
        refine gd_no (k := ?_)
        refine rd_pick_f (k := ?_)
        refine r_assign (k := ?_)
        refine sl_nil ?_
        refine sp_then ?_
        refine sw_ret ?_
      rotate_left 1
    rotate_left 2
    focus
      refine gd_no (k := ?_)
      refine gd_no (k := ?_)
      refine gd_no (k := ?_)
      refine gd_no (k := ?_)
      refine gd_no (k := ?_)
      refine rd_pick_f (k := ?_)
      refine r_move (k := ?_)
      refine gd_no (k := ?_)
      refine gd_no (k := ?_)
      refine gd_no (k := ?_)
      refine gd_no (k := ?_)
      refine gd_no (k := ?_)
      refine gd_no (k := ?_)
      refine gd_no (k := ?_)
      refine rd_pick_f (k := ?_)
      refine r_assign (k := ?_)
      refine sl_nil ?_
      refine sp_then ?_
      refine sw_ret ?_
    rotate_left 1
  rotate_left 3
  focus
    refine gd_no (k := ?_)
    refine gd_no (k := ?_)
    refine gd_no (k := ?_)
    refine gd_no (k := ?_)
    refine gd_no (k := ?_)
    refine rd_pick_f (k := ?_)
    refine r_move (k := ?_)
    refine gd_no (k := ?_)
    refine gd_no (k := ?_)
    refine gd_no (k := ?_)
    refine gd_no (k := ?_)
    refine gd_no (k := ?_)
    refine rd_pick_f (k := ?_)
    refine r_move (k := ?_)
    refine gd_no (k := ?_)
    refine gd_no (k := ?_)
    refine gd_no (k := ?_)
    refine gd_no (k := ?_)
    refine gd_no (k := ?_)
    refine gd_no (k := ?_)
    refine gd_no (k := ?_)
    refine rd_pick_f (k := ?_)
    refine r_assign (k := ?_)
    refine sl_nil ?_
    refine sp_then ?_
    refine sw_ret ?_
  rotate_left 1
  any_goals refine r_str (s := a.key) (by exact tl rfl) (by exact ti rfl) (by exact tstr) (by exact rfl) (by iterate 24 (first | exact .head _ | apply List.Mem.tail | skip)) (by exact rfl) ?_
  focus
    refine gd_yes (k := ?_)
    refine r_fieldAddr (k := ?_)
    refine gd_yes (k := ?_)
    refine r_load_one (k := ?_)
    refine gd_yes (k := ?_)
  rotate_left 1
  rotate_left 1
  rotate_left 1
  rotate_left 1
  any_goals refine r_str (s := b.key) (by exact tl rfl) (by exact ti rfl) (by exact tstr) (by exact rfl) (by iterate 24 (first | exact .head _ | apply List.Mem.tail | skip)) (by exact rfl) ?_
  focus
    refine gd_yes (k := ?_)
  rotate_left 1
  rotate_left 1
  rotate_left 1
  rotate_left 1
  any_goals refine r_streq (xs := a.key.xs) (ys := b.key.xs) (by exact rfl) (by exact rfl) (by exact rfl) ?_
  focus
    refine rd_pick_t (k := ?_)
    refine r_assign (k := ?_)
    refine sl_nil ?_
    refine sp_then ?_
    refine sw_ret ?_
  rotate_left 1
  rotate_left 1
  rotate_left 1
  rotate_left 1
  all_goals refine sp_retv rfl rfl (.tmp rfl) rfl rfl ⟨?_, rfl, rfl⟩ (by simp) rfl (by simp)
  all_goals simp_all [alikeV]
theorem c_rsame (G : Res) (a b : AncV) : Ctr Tryd.prog G 17 [a.v, b.v] [] [a.mark.key.res, b.mark.key.res] (ret1 (vb (sameV a b))) := by
  refine Ctr.intro Tryd.func17 (by kernel_rfl) rfl Tryd.ntmps17 rfl rfl rfl fun w X => ?_
  refine sw_seq ?_
  refine sw_region ?_
  refine r_box (k := fun bx => ?_)
  refine r_box (k := fun bx => ?_)
  refine r_assign (k := ?_)
  refine sl_nil ?_
  refine sp_then ?_
  refine sw_seq ?_
  refine sw_region ?_
  refine r_fieldAddr (k := ?_)
  refine r_load_one (k := ?_)
  refine r_fieldAddr (k := ?_)
  refine r_load_one (k := ?_)
  refine r_eql (k := ?_)
  refine r_move (k := ?_)
  refine g_part (h1 := fun hg => ?_) (h2 := fun hg => ?_)
  focus
    refine gd_yes (k := ?_)
    refine r_fieldAddr (k := ?_)
    refine gd_yes (k := ?_)
    refine r_load_one (k := ?_)
    refine gd_yes (k := ?_)
    refine r_fieldAddr (k := ?_)
    refine gd_yes (k := ?_)
    refine r_load_one (k := ?_)
    refine gd_yes (k := ?_)
    refine r_eql (k := ?_)
    refine rd_pick_t (k := ?_)
    refine r_move (k := ?_)
    refine g_part (h1 := fun hg => ?_) (h2 := fun hg => ?_)
    focus
      refine gd_yes (k := ?_)
      refine r_fieldAddr (k := ?_)
      refine gd_yes (k := ?_)
      refine r_load_agg (k := ?_)
      refine gd_yes (k := ?_)
      refine r_fieldAddr (k := ?_)
      refine gd_yes (k := ?_)
      refine r_load_agg (k := ?_)
      refine gd_yes (k := ?_)
    rotate_left 1
    focus
      refine gd_no (k := ?_)
      refine gd_no (k := ?_)
      refine gd_no (k := ?_)
      refine gd_no (k := ?_)
      refine gd_no (k := ?_)
      refine rd_pick_f (k := ?_)
      refine r_move (k := ?_)
      refine gd_no (k := ?_)
      refine gd_no (k := ?_)
      refine gd_no (k := ?_)
      refine gd_no (k := ?_)
      refine gd_no (k := ?_)
      refine rd_pick_f (k := ?_)
      refine r_move (k := ?_)
      refine gd_no (k := ?_)
      refine gd_no (k := ?_)
      refine gd_no (k := ?_)
      refine gd_no (k := ?_)
      refine gd_no (k := ?_)
      refine rd_pick_f (k := ?_)
      refine r_move (k := ?_)
      refine gd_no (k := ?_)
      refine gd_no (k := ?_)
      refine gd_no (k := ?_)
      refine gd_no (k := ?_)
      refine gd_no (k := ?_)
      refine rd_pick_f (k := ?_)
      refine r_move (k := ?_)
      refine gd_no (k := ?_)
      refine gd_no (k := ?_)
      refine gd_no (k := ?_)
      refine gd_no (k := ?_)
      refine gd_no (k := ?_)
      refine rd_pick_f (k := ?_)
      refine r_assign (k := ?_)
      refine sl_nil ?_
      refine sp_then ?_
      refine sw_ret ?_
    rotate_left 1
  rotate_left 2
  focus
    refine gd_no (k := ?_)
    refine gd_no (k := ?_)
    refine gd_no (k := ?_)
    refine gd_no (k := ?_)
    refine gd_no (k := ?_)
    refine rd_pick_f (k := ?_)
    refine r_move (k := ?_)
    refine gd_no (k := ?_)
    refine gd_no (k := ?_)
    refine gd_no (k := ?_)
    refine gd_no (k := ?_)
    refine gd_no (k := ?_)
    refine rd_pick_f (k := ?_)
    refine r_move (k := ?_)
    refine gd_no (k := ?_)
    refine gd_no (k := ?_)
    refine gd_no (k := ?_)
    refine gd_no (k := ?_)
    refine gd_no (k := ?_)
    refine rd_pick_f (k := ?_)
    refine r_move (k := ?_)
    refine gd_no (k := ?_)
    refine gd_no (k := ?_)
    refine gd_no (k := ?_)
    refine gd_no (k := ?_)
    refine gd_no (k := ?_)
    refine rd_pick_f (k := ?_)
    refine r_move (k := ?_)
    refine gd_no (k := ?_)
    refine gd_no (k := ?_)
    refine gd_no (k := ?_)
    refine gd_no (k := ?_)
    refine gd_no (k := ?_)
    refine rd_pick_f (k := ?_)
    refine r_move (k := ?_)
    refine gd_no (k := ?_)
    refine gd_no (k := ?_)
    refine gd_no (k := ?_)
    refine gd_no (k := ?_)
    refine gd_no (k := ?_)
    refine rd_pick_f (k := ?_)
    refine r_assign (k := ?_)
    refine sl_nil ?_
    refine sp_then ?_
    refine sw_ret ?_
  rotate_left 1
  any_goals refine r_eqagg (xs := a.root.cs.toArray) (ys := b.root.cs.toArray) (by exact rfl) (by exact rfl) (by kernel_rfl) (ptr_eq a.root b.root) (by exact rfl) ?_
  focus
    refine rd_pick_t (k := ?_)
    refine r_move (k := ?_)
    refine g_part (h1 := fun hg => ?_) (h2 := fun hg => ?_)
    focus
      refine gd_yes (k := ?_)
      refine r_fieldAddr (k := ?_)
      refine gd_yes (k := ?_)
      refine r_load_one (k := ?_)
      refine gd_yes (k := ?_)
      refine r_fieldAddr (k := ?_)
      refine gd_yes (k := ?_)
      refine r_load_one (k := ?_)
      refine gd_yes (k := ?_)
      refine r_eql (k := ?_)
      refine rd_pick_t (k := ?_)
      refine r_move (k := ?_)
      refine g_part (h1 := fun hg => ?_) (h2 := fun hg => ?_)
      focus
        refine gd_yes (k := ?_)
        refine r_fieldAddr (k := ?_)
        refine gd_yes (k := ?_)
        refine r_load_one (k := ?_)
        refine gd_yes (k := ?_)
        refine r_fieldAddr (k := ?_)
        refine gd_yes (k := ?_)
        refine r_load_one (k := ?_)
        refine gd_yes (k := ?_)
        refine r_eql (k := ?_)
        refine rd_pick_t (k := ?_)
        refine r_move (k := ?_)
        refine g_part (h1 := fun hg => ?_) (h2 := fun hg => ?_)
        focus
          refine gd_yes (k := ?_)
          refine r_fieldAddr (k := ?_)
          refine gd_yes (k := ?_)
          refine r_load_one (k := ?_)
          refine gd_yes (k := ?_)
          refine r_fieldAddr (k := ?_)
          refine gd_yes (k := ?_)
          refine r_load_one (k := ?_)
          refine gd_yes (k := ?_)
          refine r_eql (k := ?_)
          refine rd_pick_t (k := ?_)
          refine r_move (k := ?_)
          refine g_part (h1 := fun hg => ?_) (h2 := fun hg => ?_)
          focus
            refine gd_yes (k := ?_)
            refine r_fieldAddr (k := ?_)
            refine gd_yes (k := ?_)
            refine r_load_agg (k := ?_)
            refine gd_yes (k := ?_)
            refine r_fieldAddr (k := ?_)
            refine gd_yes (k := ?_)
            refine r_load_agg (k := ?_)
            refine gd_yes (k := ?_)
          rotate_left 1
          focus
            refine gd_no (k := ?_)
            refine gd_no (k := ?_)
            refine gd_no (k := ?_)
            refine gd_no (k := ?_)
            refine gd_no (k := ?_)
            refine rd_pick_f (k := ?_)
            refine r_assign (k := ?_)
            refine sl_nil ?_
            refine sp_then ?_
            refine sw_ret ?_
          rotate_left 1
        rotate_left 2
        focus
          refine gd_no (k := ?_)
          refine gd_no (k := ?_)
          refine gd_no (k := ?_)
          refine gd_no (k := ?_)
          refine gd_no (k := ?_)
          refine rd_pick_f (k := ?_)
          refine r_move (k := ?_)
          refine gd_no (k := ?_)
          refine gd_no (k := ?_)
          refine gd_no (k := ?_)
          refine gd_no (k := ?_)
          refine gd_no (k := ?_)
          refine rd_pick_f (k := ?_)
          refine r_assign (k := ?_)
          refine sl_nil ?_
          refine sp_then ?_
          refine sw_ret ?_
        rotate_left 1
      rotate_left 3
      focus
        refine gd_no (k := ?_)
        refine gd_no (k := ?_)
        refine gd_no (k := ?_)
        refine gd_no (k := ?_)
        refine gd_no (k := ?_)
        refine rd_pick_f (k := ?_)
        refine r_move (k := ?_)
        refine gd_no (k := ?_)
        refine gd_no (k := ?_)
        refine gd_no (k := ?_)
        refine gd_no (k := ?_)
        refine gd_no (k := ?_)
        refine rd_pick_f (k := ?_)
        refine r_move (k := ?_)
        refine gd_no (k := ?_)
        refine gd_no (k := ?_)
        refine gd_no (k := ?_)
        refine gd_no (k := ?_)
        refine gd_no (k := ?_)
        refine rd_pick_f (k := ?_)
        refine r_assign (k := ?_)
        refine sl_nil ?_
        refine sp_then ?_
        refine sw_ret ?_
      rotate_left 1
    rotate_left 4
    focus
      refine gd_no (k := ?_)
      refine gd_no (k := ?_)
      refine gd_no (k := ?_)
      refine gd_no (k := ?_)
      refine gd_no (k := ?_)
      refine rd_pick_f (k := ?_)
      refine r_move (k := ?_)
      refine gd_no (k := ?_)
      refine gd_no (k := ?_)
      refine gd_no (k := ?_)
      refine gd_no (k := ?_)
      refine gd_no (k := ?_)
      refine rd_pick_f (k := ?_)
      refine r_move (k := ?_)
      refine gd_no (k := ?_)
      refine gd_no (k := ?_)
      refine gd_no (k := ?_)
      refine gd_no (k := ?_)
      refine gd_no (k := ?_)
      refine rd_pick_f (k := ?_)
      refine r_move (k := ?_)
      refine gd_no (k := ?_)
      refine gd_no (k := ?_)
      refine gd_no (k := ?_)
      refine gd_no (k := ?_)
      refine gd_no (k := ?_)
      refine rd_pick_f (k := ?_)
      refine r_assign (k := ?_)
      refine sl_nil ?_
      refine sp_then ?_
      refine sw_ret ?_
    rotate_left 1
  rotate_left 5
  rotate_left 1
  rotate_left 1
  any_goals refine r_call1 (c_ralike G a.mark b.mark) (by exact rfl) (by exact rfl) (by exact rfl) (by simp) (by exact rfl) ?_
  focus
    refine rd_pick_t (k := ?_)
    refine r_assign (k := ?_)
    refine sl_nil ?_
    refine sp_then ?_
    refine sw_ret ?_
  rotate_left 1
  rotate_left 1
  rotate_left 1
  rotate_left 1
  rotate_left 1
  rotate_left 1
  rotate_left 1
  all_goals refine sp_retv rfl rfl (.tmp rfl) rfl rfl ⟨?_, rfl, rfl⟩ (by simp) rfl (by simp)
  all_goals simp_all [sameV]

/-- The first anchor of a disk. -/
def oneA : AncV := ⟨1, 32, PtrV.none, 0, 3, 1, ⟨0, 0, 0, BS.nil⟩⟩
def zeroA : AncV := AncP.zero.withKey BS.nil
theorem c_one (G : Res) : Ctr Tryd.prog G 44 [] [] [] (ret1 oneA.v) := by
  refine Ctr.intro Tryd.func44 (by kernel_rfl) rfl Tryd.ntmps44 rfl rfl rfl fun w X => ?_
  refine sw_seq ?_
  refine sw_region ?_
  refine r_alloc (by exact z32) (cs := zeroA.cs) (by kernel_rfl) (by exact rfl) fun b => ?_
  refine sl_nil ?_
  refine sp_then ?_
  refine sw_seq ?_
  refine sw_region ?_
  refine r_buildP oneA.cs (parts := [(0, .const (.int .u32 1)), (1, .const (.int .u16 32)), (4, .const (.int .u8 3)), (5, .const (.int .u32 1))]) (by exact rfl) (by kernel_rfl) (by exact rfl) ?_
  refine r_store_all (k := ?_)
  refine sl_nil ?_
  refine sp_then ?_
  refine sw_ret ?_
  refine sp_retv rfl rfl (.agg rfl (tz rfl) rfl (.head _)) rfl rfl ⟨rfl, rfl, rfl⟩ (by simp) rfl (by simp)

theorem ancsV_cell (L : List AncV) (i k : Nat) (h : i < L.length) (hk : k < 14) : (ancsV L)[i * 14 + k]? = L[i].cs[k]? := by
  have h1 := ancsV_at L i h
  have h2 : (part' (ancsV L) (i * 14) 14)[k]? = L[i].cs[k]? := by rw [h1]
  rw [← h2, part', List.getElem?_take, if_pos hk, List.getElem?_drop]

/-- Keys that are too long to be asked. -/
def longKey (a : AncV) : Bool := decide ((40 : Int) < (a.mark.key.xs.length : Int))
def greatV (L : List AncV) : Bool := (L.take 21).any longKey || decide ((20 : Int) < (L.length : Int))
theorem take_any {α : Type} (L : List α) (p : α → Bool) (i : Nat) (h : i < L.length) : (L.take (i + 1)).any p = ((L.take i).any p || p L[i]) := by
  rw [List.take_succ_eq_append_getElem h, List.any_append]; simp
theorem any_take_true {α : Type} {L : List α} {p : α → Bool} {i n : Nat} (h : (L.take i).any p = true) (hi : i ≤ n) : (L.take n).any p = true := by
  rw [List.any_eq_true] at h ⊢
  obtain ⟨x, hx, hp⟩ := h
  refine ⟨x, ?_, hp⟩
  have : L.take i = (L.take n).take i := by rw [List.take_take, Nat.min_eq_left hi]
  rw [this] at hx
  exact List.mem_of_mem_take hx

theorem c_great (G : Res) (ba : Option Addr) (cap : Nat) (L : List AncV) (hn : L.length ≤ maxLen) : Ctr Tryd.prog G 12 [.slice ba L.length cap] [] [Res.mem ba (ancsV L)] (ret1 (vb (greatV L))) := by
  have hn' : L.length ≤ 9223372036854775807 := hn
  have hal := ancsV_len L
  refine Ctr.intro Tryd.func12 (by kernel_rfl) rfl Tryd.ntmps12 rfl rfl rfl fun w X => ?_
  refine sw_seq ?_
  refine sw_region ?_
  refine r_assign (k := ?_)
  refine sl_nil ?_
  refine sp_then ?_
  refine sw_seq ?_
  refine sw_seq ?_
  refine sw_region ?_
  refine r_assign (k := ?_)
  refine sl_nil ?_
  refine sp_then ?_
  refine sw_block ?_
  refine sw_loop (ι := { i : Nat // i ≤ L.length ∧ i ≤ 21 ∧ (L.take i).any longKey = false }) (fun i => [(0, .slice ba L.length cap), (3, vi (i.1 : Int)), (2, vb false)]) (fun _ => []) (fun _ => [Res.mem ba (ancsV L)]) (fun _ => []) (fun i => L.length - i.1) ⟨0, by omega, by omega, by simp⟩ ?_ fun i => ?_
  · exact Ent.mk' (by repeat' (first | trivial | exact rfl | apply And.intro)) (by repeat' (first | trivial | exact .head _ | apply And.intro | apply List.Mem.tail))
  obtain ⟨i, hi, hi21, hany⟩ := i
  dsimp only
  refine sw_seq ?_
  refine sw_seq ?_
  refine sw_region ?_
  refine r_move (k := ?_)
  refine r_move (k := ?_)
  refine r_len (k := ?_)
  refine r_lss (k := ?_)
  refine r_move (k := ?_)
  refine g_part (h1 := fun hg => ?_) (h2 := fun hg => ?_)
  focus
    refine gd_yes (k := ?_)
    refine r_move (k := ?_)
    refine gd_yes (k := ?_)
    refine r_leq (k := ?_)
    refine rd_pick_t (k := ?_)
    refine sl_nil ?_
    refine sp_then ?_
    refine sw_cond (h1 := fun hg => ?_) (h2 := fun hg => ?_)
    focus
      refine sw_skip ?_
      refine sp_then ?_
      refine sw_seq ?_
      refine sw_block ?_
      refine sw_seq ?_
      refine sw_region ?_
      refine r_move (k := ?_)
      refine r_move (k := ?_)
    rotate_left 1
    focus
      refine sw_exit ?_
      refine sp_then_exit ?_
      refine sp_loop_exit ?_
      refine sp_block_exit ?_
      refine sp_then ?_
      refine sw_seq ?_
      refine sw_region ?_
      refine r_move (k := ?_)
      refine r_len (k := ?_)
      refine r_gtr (k := ?_)
      refine r_assign (k := ?_)
      refine sl_nil ?_
      refine sp_then ?_
      refine sw_ret ?_
    rotate_left 1
  rotate_left 2
  focus
    refine gd_no (k := ?_)
    refine gd_no (k := ?_)
    refine rd_pick_f (k := ?_)
    refine sl_nil ?_
    refine sp_then ?_
    refine swd_f (h := ?_)
    refine sw_exit ?_
    refine sp_then_exit ?_
    refine sp_loop_exit ?_
    refine sp_block_exit ?_
    refine sp_then ?_
    refine sw_seq ?_
    refine sw_region ?_
    refine r_move (k := ?_)
    refine r_len (k := ?_)
    refine r_gtr (k := ?_)
    refine r_assign (k := ?_)
    refine sl_nil ?_
    refine sp_then ?_
    refine sw_ret ?_
  rotate_left 1
  · rename_i h1
    have h1 := of_decide_eq_true h1
    have h2 := of_decide_eq_true hg
    have hi' : i < L.length := by omega
    refine r_idx (by exact tl rfl) (by exact rfl) (by exact rfl) (by omega) (by omega) (by iterate 24 (first | exact .head _ | apply List.Mem.tail | skip)) (by omega) (by exact rfl) (by exact Int.toNat_natCast _) (by exact rfl) ?_
    refine r_fieldAddr_mem (o := i * 14) (cs := ancsV L) (by exact tf rfl rfl) (by exact rfl) (by exact rfl) (by iterate 24 (first | exact .head _ | apply List.Mem.tail | skip)) (by omega) (by exact rfl) ?_
    refine r_fieldAddr_mem (o := i * 14 + 10) (cs := ancsV L) (by exact tf rfl rfl) (by exact rfl) (by exact rfl) (by iterate 24 (first | exact .head _ | apply List.Mem.tail | skip)) (by omega) (by exact rfl) ?_
    refine r_load_mem1 (o := i * 14 + 10 + 3) (v := L[i].mark.key.v) (by exact tz rfl) (by exact rfl) (by iterate 24 (first | exact .head _ | apply List.Mem.tail | skip)) (ancsV_cell L i 13 hi' (by omega)) (by exact rfl) ?_
    refine r_re (t := 19) (v' := .slice L[i].mark.key.ba L[i].mark.key.xs.length L[i].mark.key.cap) rfl rfl ?_
    refine r_len (k := ?_)
    refine r_gtr (k := ?_)
    refine sl_nil ?_
    refine sp_then ?_
    refine sw_cond rfl (fun h => ?_) (fun h => ?_)
    · refine sw_seq ?_
      refine sw_region ?_
      refine r_assign (k := ?_)
      refine sl_nil ?_
      refine sp_then ?_
      refine sw_ret ?_
      refine sp_block_ret ?_
      refine sp_then_ret ?_
      refine sp_loop_ret ?_
      refine sp_block_ret ?_
      refine sp_then_ret ?_
      refine sp_retv rfl rfl (.tmp rfl) rfl rfl ⟨?_, rfl, rfl⟩ (by simp) rfl (by simp)
      have : (L.take 21).any longKey = true := any_take_true (i := i + 1) (by rw [take_any L _ i hi', hany]; exact h) (by omega)
      simp [greatV, this]
    · refine sw_skip ?_
      refine sp_block ?_
      refine sp_then ?_
      refine sw_region ?_
      refine r_move (k := ?_)
      refine r_add64 (k := ?_)
      refine r_assign (k := ?_)
      refine sl_nil ?_
      refine sp_loop (ι := { i : Nat // i ≤ L.length ∧ i ≤ 21 ∧ (L.take i).any longKey = false }) ⟨i + 1, by omega, by omega, by rw [take_any L _ i hi', hany]; exact h⟩ ?_ ?_
      · dsimp only; omega
      · exact Ent.mk' (by repeat' (first | trivial | exact rfl | apply And.intro)) (by repeat' (first | trivial | exact .head _ | apply And.intro | apply List.Mem.tail))
  · refine sp_retv rfl rfl (.tmp rfl) rfl rfl ⟨?_, rfl, rfl⟩ (by simp) rfl (by simp)
    have hg := of_decide_eq_false hg
    obtain rfl : i = 21 := by omega
    simp [greatV, hany]
  · refine sp_retv rfl rfl (.tmp rfl) rfl rfl ⟨?_, rfl, rfl⟩ (by simp) rfl (by simp)
    have hg := of_decide_eq_false hg
    have e : L.take 21 = L.take i := by rw [List.take_of_length_le (by omega), List.take_of_length_le (by omega)]
    simp [greatV, e, hany]

/-! ### What the document says of noughts, reckoned -/
theorem decV_zero : decV 0 (zeros 256) = (AncP.zero, 50) := by kernel_rfl
theorem encV_one : encV oneA = (oneA.page, 0) := by kernel_rfl
theorem decV_one : decV 65 oneA.page = (oneA.pure, 0) := by kernel_rfl
end Go.Proofs.YtjahiohlekdhoaaDoor

namespace Go.Proofs.YtjahiohlekdhoaaDoor
open Go

theorem kU {t : TypeId} {d : TypeDesc} (h : Tryd.prog.underlying t = some d) : Tryd.prog.underlying t = some d := h
theorem rd8 : Rd Tryd.prog 5 (fun b : UInt8 => [v8 b]) fun _ _ => True := rd_u8 (by kernel_rfl)
theorem rd16 : Rd Tryd.prog 23 (fun b : UInt16 => [v16 b]) fun _ _ => True := rd_u16 (by kernel_rfl)
theorem rd32 : Rd Tryd.prog 22 (fun b : UInt32 => [v32 b]) fun _ _ => True := rd_u32 (by kernel_rfl)
theorem rd64 : Rd Tryd.prog 25 (fun b : UInt64 => [v64 b]) fun _ _ => True := rd_u64 (by kernel_rfl)
theorem rdi : Rd Tryd.prog 3 (fun n : Int => [vi n]) fun n _ => i64ok n := rd_int (by kernel_rfl)

def BSR (s : BS) (w : World) : Prop := s.ok ∧ s.res.p V0 w
theorem flat_v8 (l : List UInt8) : (l.flatMap fun b => [v8 b]) = bv l := by
  induction l with
  | nil => rfl
  | cons x l ih => rw [List.flatMap_cons, ih]; rfl
theorem rdB : Rd Tryd.prog 28 (fun s : BS => [s.v]) BSR := by
  intro H enc w base spare held fuel cells x h
  obtain ⟨s, rfl, hok, hm, _⟩ := rd_slice (t := 28) (e := 5) (n := 1) (by kernel_rfl) rd8 (fun _ => rfl) (by kernel_rfl) rfl h
  exact ⟨⟨s.ba, s.cap, s.xs⟩, rfl, hok, by rw [flat_v8] at hm; exact hm⟩

theorem two_of {l : List Value} (h : l.length = 2) : ∃ a b, l = [a, b] := by
  match l, h with
  | [a, b], _ => exact ⟨a, b, rfl⟩
theorem four_of {l : List Value} (h : l.length = 4) : ∃ a b c d, l = [a, b, c, d] := by
  match l, h with
  | [a, b, c, d], _ => exact ⟨a, b, c, d, rfl⟩
theorem five_of {l : List Value} (h : l.length = 5) : ∃ a b c d e, l = [a, b, c, d, e] := by
  match l, h with
  | [a, b, c, d, e], _ => exact ⟨a, b, c, d, e, rfl⟩
theorem fourteen_of {l : List Value} (h : l.length = 14) : ∃ a b c d e f g i j k m n o p, l = [a, b, c, d, e, f, g, i, j, k, m, n, o, p] := by
  match l, h with
  | [a, b, c, d, e, f, g, i, j, k, m, n, o, p], _ => exact ⟨a, b, c, d, e, f, g, i, j, k, m, n, o, p, rfl⟩

theorem rdAddr : Rd Tryd.prog 24 (fun l : { l : List UInt16 // l.length = 2 } => l.1.map v16) fun _ _ => True := by
  intro H enc w base spare held fuel cells x h
  obtain ⟨a, ha, _⟩ := rd_array1 (t := 24) (e := 23) (c := v16) (by kernel_rfl) rd16 (by kernel_rfl) (by kernel_rfl) h
  exact ⟨a, ha, trivial⟩
theorem rdPtr : Rd Tryd.prog 27 PtrV.cs fun _ _ => True := by
  intro H enc w base spare held fuel cells x h
  obtain ⟨hl, hf⟩ := rd_field (fs := [(5, 0), (24, 1), (22, 3), (25, 4)]) (by kernel_rfl) h
  rw [show Tryd.prog.cellsOf 27 = 5 by kernel_rfl] at hl
  obtain ⟨c0, c1, c2, c3, c4, rfl⟩ := five_of hl
  obtain ⟨k, hk, _⟩ := hf (n := 1) (.head _) (by kernel_rfl) rd8
  obtain ⟨⟨l, hl2⟩, ha, _⟩ := hf (n := 2) (.tail _ (.head _)) (by kernel_rfl) rdAddr
  obtain ⟨bi, hb, _⟩ := hf (n := 1) (.tail _ (.tail _ (.head _))) (by kernel_rfl) rd32
  obtain ⟨su, hs, _⟩ := hf (n := 1) (.tail _ (.tail _ (.tail _ (.head _)))) (by kernel_rfl) rd64
  match l, hl2 with
  | [a0, a1], _ =>
    refine ⟨⟨k, a0, a1, bi, su⟩, ?_, trivial⟩
    simp at hk ha hb hs
    simp [PtrV.cs, hk, ha, hb, hs]
theorem rdMk : Rd Tryd.prog 30 MkV.cs fun m w => BSR m.key w := by
  intro H enc w base spare held fuel cells x h
  obtain ⟨hl, hf⟩ := rd_field (fs := [(5, 0), (5, 1), (22, 2), (28, 3)]) (by kernel_rfl) h
  rw [show Tryd.prog.cellsOf 30 = 4 by kernel_rfl] at hl
  obtain ⟨c0, c1, c2, c3, rfl⟩ := four_of hl
  obtain ⟨o, ho, _⟩ := hf (n := 1) (.head _) (by kernel_rfl) rd8
  obtain ⟨d, hd, _⟩ := hf (n := 1) (.tail _ (.head _)) (by kernel_rfl) rd8
  obtain ⟨si, hs, _⟩ := hf (n := 1) (.tail _ (.tail _ (.head _))) (by kernel_rfl) rd32
  obtain ⟨k, hk, hkr⟩ := hf (n := 1) (.tail _ (.tail _ (.tail _ (.head _)))) (by kernel_rfl) rdB
  refine ⟨⟨o, d, si, k⟩, ?_, hkr⟩
  simp at ho hd hs hk
  simp [MkV.cs, ho, hd, hs, hk]
theorem rdAnc : Rd Tryd.prog 32 AncV.cs fun a w => BSR a.mark.key w := by
  intro H enc w base spare held fuel cells x h
  obtain ⟨hl, hf⟩ := rd_field (fs := [(22, 0), (23, 1), (27, 2), (22, 7), (5, 8), (22, 9), (30, 10)]) (by kernel_rfl) h
  rw [show Tryd.prog.cellsOf 32 = 14 by kernel_rfl] at hl
  obtain ⟨c0, c1, c2, c3, c4, c5, c6, c7, c8, c9, c10, c11, c12, c13, rfl⟩ := fourteen_of hl
  obtain ⟨f0, h0, _⟩ := hf (n := 1) (.head _) (by kernel_rfl) rd32
  obtain ⟨f1, h1, _⟩ := hf (n := 1) (.tail _ (.head _)) (by kernel_rfl) rd16
  obtain ⟨f2, h2, _⟩ := hf (n := 5) (.tail _ (.tail _ (.head _))) (by kernel_rfl) rdPtr
  obtain ⟨f3, h3, _⟩ := hf (n := 1) (.tail _ (.tail _ (.tail _ (.head _)))) (by kernel_rfl) rd32
  obtain ⟨f4, h4, _⟩ := hf (n := 1) (.tail _ (.tail _ (.tail _ (.tail _ (.head _))))) (by kernel_rfl) rd8
  obtain ⟨f5, h5, _⟩ := hf (n := 1) (.tail _ (.tail _ (.tail _ (.tail _ (.tail _ (.head _)))))) (by kernel_rfl) rd32
  obtain ⟨f6, h6, hr⟩ := hf (n := 4) (.tail _ (.tail _ (.tail _ (.tail _ (.tail _ (.tail _ (.head _))))))) (by kernel_rfl) rdMk
  refine ⟨⟨f0, f1, f2, f3, f4, f5, f6⟩, ?_, hr⟩
  simp [PtrV.cs, MkV.cs] at h0 h1 h2 h3 h4 h5 h6
  simp [AncV.cs, h0, h1, h2, h3, h4, h5, h6]
theorem rdAncs : Rd Tryd.prog 47 (fun s : Sl AncV => [s.v]) fun s w => s.ok ∧ (Res.mem s.ba (ancsV s.xs)).p V0 w ∧ ∀ a ∈ s.xs, BSR a.mark.key w :=
  rd_slice (t := 47) (e := 32) (n := 14) (by kernel_rfl) rdAnc (fun _ => rfl) (by kernel_rfl) rfl
theorem rdPage : Rd Tryd.prog 37 (fun l : { l : List UInt8 // l.length = 256 } => bv l.1) fun _ _ => True := by
  intro H enc w base spare held fuel cells x h
  obtain ⟨a, ha, _⟩ := rd_array1 (t := 37) (e := 5) (c := v8) (by kernel_rfl) rd8 (by kernel_rfl) (by kernel_rfl) h
  exact ⟨a, ha, trivial⟩
theorem rdEight : Rd Tryd.prog 33 (fun l : { l : List UInt8 // l.length = 8 } => bv l.1) fun _ _ => True := by
  intro H enc w base spare held fuel cells x h
  obtain ⟨a, ha, _⟩ := rd_array1 (t := 33) (e := 5) (c := v8) (by kernel_rfl) rd8 (by kernel_rfl) (by kernel_rfl) h
  exact ⟨a, ha, trivial⟩
end Go.Proofs.YtjahiohlekdhoaaDoor

namespace Go.Proofs.YtjahiohlekdhoaaDoor
open Go
section
variable {c : Ctx} {ρ : List (Nat × Value)} {B : List Own} {Φ : List Res} {Ψ : List JR} {ops : Array Oper} {rest : List Oper} {Q : Post} {d ty t : Nat} {ps : String} {af : Array Edge} {x y z : Operand} {xt yt : TypeId} {m n : Int}
theorem r_xor64c {a : UInt64} {n : Nat} (hx : ev ρ x = some (v64 a) := by exact rfl) (hy : ev ρ y = some (.int .u64 (n : Int)) := by exact rfl) (hn : (UInt64.ofNat n).toNat = n := by exact rfl) (hb : Nat.blt d c.nt = true := by exact rfl) (k : SL c ((d, v64 (a ^^^ UInt64.ofNat n)) :: ρ) B Φ Ψ ops rest Q) : SL c ρ B Φ Ψ ops (⟨some d, .binOp .xor xt x y yt, ty, ps, af, none⟩ :: rest) Q :=
  r_xor64 hx (by rw [hy, v64, hn]) hb k
theorem r_mulI (hx : ev ρ x = some (vi m) := by exact rfl) (hy : ev ρ y = some (vi n) := by exact rfl) (hb : Nat.blt d c.nt = true := by exact rfl) (h1 : -9223372036854775808 ≤ m * n := by omega) (h2 : m * n ≤ 9223372036854775807 := by omega) (k : SL c ((d, vi (m * n)) :: ρ) B Φ Ψ ops rest Q) :
    SL c ρ B Φ Ψ ops (⟨some d, .binOp .mul xt x y yt, ty, ps, af, none⟩ :: rest) Q := r_mul hx hy hb (by rw [wrap_in h1 h2]; exact k)
theorem r_cv_i_u {n : Nat} {st dt : TypeId} (ht : tInt c.P dt = some .u64 := by exact ti rfl) (hs' : tInt c.P st = some .i64 := by exact ti rfl) (hx : ev ρ x = some (vi (n : Int)) := by exact rfl) (hn : n ≤ 9223372036854775807 := by omega) (hb : Nat.blt d c.nt = true := by exact rfl) (k : SL c ((d, .int .u64 (n : Int)) :: ρ) B Φ Ψ ops rest Q) : SL c ρ B Φ Ψ ops (⟨some d, .convert st dt x, ty, ps, af, none⟩ :: rest) Q :=
  r_cv ht hs' hx (by rw [IntKind.wrap_u64]; omega) hb k
theorem q_xor8 {a b : UInt8} (hx : ev ρ x = some (v8 a) := by exact rfl) (hy : ev ρ y = some (v8 b) := by exact rfl) : Qt c ρ B Φ Ψ (.binOp .xor xt x y yt) ty (v8 (a ^^^ b)) := q_bin hx hy (fun w => by
  have e := wr8 (a ^^^ b)
  simp [eqGuard, binOp, Op.intBits, IntKind.bits] at e ⊢
  exact e)
theorem q_addI {r : Int} (hx : ev ρ x = some (vi m)) (hy : ev ρ y = some (vi n)) (e : m + n = r) (h1 : -9223372036854775808 ≤ r) (h2 : r ≤ 9223372036854775807) : Qt c ρ B Φ Ψ (.binOp .add xt x y yt) ty (vi r) := by
  subst e; exact q_add64 hx hy h1 h2
theorem q_subI {r : Int} (hx : ev ρ x = some (vi m)) (hy : ev ρ y = some (vi n)) (e : m - n = r) (h1 : -9223372036854775808 ≤ r) (h2 : r ≤ 9223372036854775807) : Qt c ρ B Φ Ψ (.binOp .sub xt x y yt) ty (vi r) := by
  subst e; exact q_sub64 hx hy h1 h2
theorem ra_re {I : List Nat → World → Prop} {todo : List Nat} {t : Nat} {v v' : Value} (hx : lk ρ t = some v) (e : v = v') (k : RA c I ((t, v') :: ρ) B Φ Ψ ops todo Q) : RA c I ρ B Φ Ψ ops todo Q := fun a w hs => k a w ⟨hs.nt, fun s u hu => by
  rw [lk_cons] at hu
  split at hu
  · rename_i h; subst h; cases hu; subst e; exact hs.reg _ _ hx
  · exact hs.reg s u hu, hs.dfr, hs.mem⟩
end
end Go.Proofs.YtjahiohlekdhoaaDoor

namespace Go.Proofs.YtjahiohlekdhoaaDoor
open Go

/-- A loop's state that asks to be left alone by more. -/
def JU (U : Av) (J : JR) : JR where
  p M U' w := (∀ b, U b → b < w.heap.size) ∧ ∃ U'' : Av, (∀ b, U b → U'' b) ∧ (∀ b, U' b → U'' b) ∧ J.p M U'' w
  st := by
    rintro M U' U1 w w' hk ⟨h0, U'', h1, h2, h3⟩
    exact ⟨fun b h => Nat.lt_of_lt_of_le (h0 b h) hk.size, fun b => (U'' b ∧ b < w.heap.size) ∨ U1 b, fun b h => .inl ⟨h1 b h, h0 b h⟩, fun b h => .inr h,
      J.st ⟨hk.size, fun b hl hn => hk.same b hl fun h => hn (h2 b h), fun b hl h => h.elim (fun h => h.1) fun h => h2 b (hk.av b hl h)⟩ h3⟩

theorem Yields.more {P : Program} {l : Nat} {σ α : Type} {J : σ → JR} {E : α → List Value → Res} {Y : σ → α → σ} {go : σ → Bool} {A : σ → α → Prop} {X X' U : Av} (h : Yields P l J E Y go A X) (hX : ∀ b, X b → X' b) (hU : ∀ b, U b → X' b) : Yields P l (fun s => JU U (J s)) E Y go A X' := by
  rintro s x vs w V U' M hgo hA hX' ⟨h0, U'', h1, h2, h3⟩ hM hU' hV hE
  obtain ⟨fn, tmps, assign, body, hy, hR⟩ := h s x vs w V (fun b => U'' b ∧ V b) M hgo hA (fun b hb => hX' b (hX b hb)) ((J s).st ⟨Nat.le_refl _, fun _ _ _ => rfl, fun b _ h => h.1⟩ h3) hM (fun b h => h.2) hV hE
  refine ⟨fn, tmps, assign, body, hy, ?_⟩
  have hR' : RoundIn (Fr none) 0 P l fn tmps assign body w _ := hR
  refine hR'.mono ?_
  rintro e w' ⟨rfl, M', hJ', hM', ⟨hsz, hio⟩, hk⟩
  exact ⟨rfl, M', ⟨fun b h => Nat.lt_of_lt_of_le (h0 b h) hsz, _, fun b h => ⟨h1 b h, hX' b (hU b h)⟩, fun b h => ⟨h2 b h, hU' b h⟩, hJ'⟩, hM', ⟨hsz, hio⟩, hk⟩

/-- What a loop within an iterator holds between two rounds. -/
def JI (c : Ctx) (rec : LoopState → Option Code → Loop) (l mk : Nat) {σ : Type} (Φ0 : List Res) (J : σ → JR) (jmp : σ → Option Code) (s : σ) : JR where
  p M U w := ∃ V : Av, (∀ b, U b → V b) ∧ (∀ b, c.X b → V b) ∧ (∀ b, M b → V b) ∧ (∀ b, M b → ¬ U b ∧ b < w.heap.size) ∧ (M l ∧ M mk) ∧
    Sep (two rec l mk (stOf (jmp s)) (jmp s) []) w ∧ (∀ φ ∈ Φ0, φ.p V w) ∧ c.G.p V w ∧ (c.w0.heap.size ≤ l ∧ c.w0.heap.size ≤ mk) ∧ (∀ b, M b → c.Y b ∨ c.w0.heap.size ≤ b) ∧
    (J s).p (fun b => M b ∧ b ≠ l ∧ b ≠ mk) (fun b => U b ∨ b = l ∨ b = mk) w
  st := by
    rintro M U U' w w' hk ⟨V, h1, h2, h3, h4, h5, h6, h7, h8, h9, h10, h11⟩
    have kv : Kept V (fun b => V b ∨ U' b) w w' := ⟨hk.size, fun b hl hn => hk.same b hl fun h => hn (h1 b h), fun b hl h => h.elim id fun h => h1 b (hk.av b hl h)⟩
    refine ⟨fun b => V b ∨ U' b, fun b h => .inr h, fun b h => .inl (h2 b h), fun b h => .inl (h3 b h), fun b h => ?_, h5, h6.keep fun b hb => ?_, fun φ hφ => φ.st kv (h7 φ hφ), c.G.st kv h8, h9, h10, ?_⟩
    · obtain ⟨a1, a2⟩ := h4 b h
      exact ⟨fun h' => a1 (hk.av b a2 h'), Nat.lt_of_lt_of_le a2 hk.size⟩
    · refine hk.same b (h6.lt hb) ?_
      obtain ⟨o, ho, e⟩ := hb
      unfold two at ho
      cases ho with
      | head => cases e; exact (h4 _ h5.1).1
      | tail _ ho => cases ho with
        | head => cases e; exact (h4 _ h5.2).1
        | tail _ ho => cases ho
    · exact (J s).st ⟨hk.size, fun b hl hn => hk.same b hl fun h => hn (.inl h), fun b hl h => h.elim (fun h => .inl (hk.av b hl h)) .inr⟩ h11

/-- What is asked at such a round's end. -/
def RQI (c cl : Ctx) (rec : LoopState → Option Code → Loop) (l mk : Nat) {σ : Type} (Φ0 : List Res) (J : σ → JR) (jmp : σ → Option Code) (s' : σ) (U M : Av) : Post :=
  roundPost c.P l fun e w' => e = .returned (.bool (jmp s').isNone) ∧ ∃ M', (JI cl rec l mk Φ0 J jmp s').p M' U w' ∧ (∀ b, M' b → (M b ∨ c.w0.heap.size ≤ b) ∧ b < w'.heap.size) ∧ (c.w0.heap.size ≤ w'.heap.size ∧ Io c.w0 w') ∧ ∀ b, b < c.w0.heap.size → ¬ M b → w'.heap[b]? = c.w0.heap[b]?

structure TiedI (c cl : Ctx) (l mk : Nat) (U M : Av) : Prop where
  hG : cl.G = c.G
  hX : ∀ b, cl.X b → c.X b
  hU : ∀ b, U b → c.X b
  hK : ∀ b, c.K b → M b
  hY : ∀ b, c.Y b → M b
  hM : ∀ b, M b → ¬ U b ∧ b < c.w0.heap.size ∧ (cl.Y b ∨ cl.w0.heap.size ≤ b)
  hl : M l ∧ M mk ∧ cl.w0.heap.size ≤ l ∧ cl.w0.heap.size ≤ mk
  hw0 : cl.w0.heap.size ≤ c.w0.heap.size

section
variable {c cl : Ctx} {ρ : List (Nat × Value)} {B B' : List Own} {Φ Φ0 : List Res} {l mk : Nat} {rec : LoopState → Option Code → Loop} {body : Code} {R : Post}

theorem round_endI {σ : Type} {J : σ → JR} {jmp : σ → Option Code} {s' : σ} {U M : Av} (ht : TiedI c cl l mk U M) (hrec : ∀ st j, rec st j = { rec .busy none with state := st, pending := j }) (hsub : (two rec l mk .busy none []).Sublist B) (hΦ : ∀ φ ∈ Φ0, φ ∈ Φ) {a : Act} {w : World} (hs : St c ρ B Φ [JU U (J s')] a w) :
    ∃ w', (Instr.endRound l (jmp s')).run c.P w = .ok (.bool (jmp s').isNone) w' ∧ ∃ M', (JI cl rec l mk Φ0 J jmp s').p M' U w' ∧ (∀ b, M' b → (M b ∨ c.w0.heap.size ≤ b) ∧ b < w'.heap.size) ∧ (c.w0.heap.size ≤ w'.heap.size ∧ Io c.w0 w') ∧ ∀ b, b < c.w0.heap.size → ¬ M b → w'.heap[b]? = c.w0.heap[b]? := by
  obtain ⟨V, U1, M1, m⟩ := hs.mem
  have hin : ∀ o ∈ two rec l mk .busy none [], o ∈ B := fun o ho => hsub.subset ho
  have hl : w.heap[l]? = some (.loop (rec .busy none)) := m.sep.holds _ (hin _ (.head _))
  have hlt := (Array.getElem?_eq_some_iff.1 hl).1
  have bl : blks B l := ⟨_, hin _ (.head _), rfl⟩
  have bm : blks B mk := ⟨_, hin _ (.tail _ (.head _)), rfl⟩
  have hE : ({ rec .busy none with state := if (jmp s').isNone then .ready else .done, pending := jmp s' } : Loop) = rec (stOf (jmp s')) (jmp s') := by
    rw [hrec (stOf (jmp s')) (jmp s')]; cases jmp s' <;> rfl
  have hrun := run_endRound (P := c.P) (jmp s') hl
  rw [hE] at hrun
  have hsep0 : Sep (two rec l mk .busy none []) w := ⟨fun o ho => m.sep.holds o (hin o ho), m.sep.apart.sublist hsub⟩
  have hap := List.pairwise_cons.1 hsep0.apart
  obtain ⟨w', hw'⟩ : ∃ w', w' = w.putObj l (.loop (rec (stOf (jmp s')) (jmp s'))) := ⟨_, rfl⟩
  rw [← hw'] at hrun
  have hsz : w'.heap.size = w.heap.size := by rw [hw']; simp [World.putObj]
  have hoth : ∀ b, b ≠ l → w'.heap[b]? = w.heap[b]? := fun b h => by rw [hw']; exact putObj_other h
  have hsep : Sep (two rec l mk (stOf (jmp s')) (jmp s') []) w' := by
    refine ⟨fun o ho => ?_, List.pairwise_cons.2 ⟨fun o ho b h1 h2 => hap.1 o ho b h1 h2, hap.2⟩⟩
    cases ho with
    | head => rw [hw']; exact putObj_same hlt
    | tail _ ho => exact Own.keep (hsep0.holds o (.tail _ ho)) fun b hb => hoth b fun e => hap.1 o ho b (by rw [e]; rfl) hb
  have kv : Kept V V w w' := ⟨by omega, fun b _ hn => hoth b fun e => hn (m.vb b (by rw [e]; exact bl)), fun b _ h => h⟩
  obtain ⟨u0, U'', u1, u2, u3⟩ := m.psi _ (.head _)
  have hM1 : (fun b => (M1 b ∨ b = l ∨ b = mk) ∧ b ≠ l ∧ b ≠ mk) = M1 := by
    funext b
    refine propext ⟨fun ⟨h, h1, h2⟩ => h.elim id fun h => h.elim (fun h => absurd h h1) fun h => absurd h h2, fun h => ⟨.inl h, fun e => ?_, fun e => ?_⟩⟩
    · subst e; exact (m.own _ bl).2.2 h
    · subst e; exact (m.own _ bm).2.2 h
  have hmo : ∀ b, M1 b → M b ∨ c.w0.heap.size ≤ b := fun b h => (m.mo b h).imp (ht.hY b) id
  obtain ⟨tl, tm, t1, t2⟩ := ht.hl
  refine ⟨w', hrun, fun b => M1 b ∨ b = l ∨ b = mk, ⟨V, fun b h => m.vx b (ht.hU b h), fun b h => m.vx b (ht.hX b h), fun b h => ?_, fun b h => ?_, ⟨.inr (.inl rfl), .inr (.inr rfl)⟩, hsep, fun φ hφ => φ.st kv (m.phi φ (hΦ φ hφ)), by rw [ht.hG]; exact c.G.st kv m.g, ⟨t1, t2⟩, fun b h => ?_, ?_⟩, fun b h => ?_, ⟨by have := m.sz; omega, m.io.trans (by rw [hw']; exact ⟨rfl, rfl, rfl⟩)⟩, fun b h1 h2 => ?_⟩
  · rcases h with h | h | h
    · exact m.vm b h
    · subst h; exact m.vb _ bl
    · subst h; exact m.vb _ bm
  · rcases h with h | h | h
    · refine ⟨fun hu => ?_, by have := m.vlt b (m.vm b h); omega⟩
      rcases hmo b h with h' | h'
      · exact (ht.hM b h').1 hu
      · have := m.xlt b (ht.hU b hu); omega
    · subst h; exact ⟨(ht.hM _ tl).1, by omega⟩
    · subst h; exact ⟨(ht.hM _ tm).1, by have := m.sep.lt bm; omega⟩
  · rcases h with h | h | h
    · rcases hmo b h with h' | h'
      · exact (ht.hM b h').2.2
      · exact .inr (Nat.le_trans ht.hw0 h')
    · subst h; exact .inr t1
    · subst h; exact .inr t2
  · rw [hM1]
    refine (J s').st ⟨by omega, fun b _ hn => hoth b fun e => hn (u2 b (m.ub b (by rw [e]; exact bl))), fun b _ h => ?_⟩ u3
    rcases h with h | h | h
    · exact u1 b h
    · subst h; exact u2 _ (m.ub _ bl)
    · subst h; exact u2 _ (m.ub _ bm)
  · rcases h with h | h | h
    · exact ⟨hmo b h, by have := m.vlt b (m.vm b h); omega⟩
    · subst h; exact ⟨.inl tl, by omega⟩
    · subst h; exact ⟨.inl tm, by have := m.sep.lt bm; omega⟩
  · exact (hoth b fun e => h2 (by rw [e]; exact tl)).trans (m.frame b h1 (fun h => h2 (ht.hK b h)) fun h => h2 (ht.hY b h))

section
variable {σ : Type} {J : σ → JR} {jmp : σ → Option Code} {s' : σ} {U M : Av}
theorem sp_roundI (ht : TiedI c cl l mk U M) (hrec : ∀ st j, rec st j = { rec .busy none with state := st, pending := j }) (hj : jmp s' = none) (hsub : (two rec l mk .busy none []).Sublist B) (hΦ : ∀ φ ∈ Φ0, φ ∈ Φ) : SP c ρ B Φ [JU U (J s')] .normal (RQI c cl rec l mk Φ0 J jmp s' U M) := fun a w hs => by
  obtain ⟨w', h1, M', h2, h3, h4, h5⟩ := round_endI (jmp := jmp) ht hrec hsub hΦ hs
  rw [hj] at h1
  exact ⟨_, w', h1, by rw [hj], M', h2, h3, h4, h5⟩
theorem sp_roundI_ret (ht : TiedI c cl l mk U M) (hrec : ∀ st j, rec st j = { rec .busy none with state := st, pending := j }) (hj : jmp s' = some .ret) (hsub : (two rec l mk .busy none []).Sublist B) (hΦ : ∀ φ ∈ Φ0, φ ∈ Φ) : SP c ρ B Φ [JU U (J s')] .ret (RQI c cl rec l mk Φ0 J jmp s' U M) := fun a w hs => by
  obtain ⟨w', h1, M', h2, h3, h4, h5⟩ := round_endI (jmp := jmp) ht hrec hsub hΦ hs
  rw [hj] at h1
  exact ⟨_, w', h1, by rw [hj], M', h2, h3, h4, h5⟩
end

/-- A round begins. -/
theorem sp_asgI {Ψ : List JR} (hrec : ∀ st j, rec st j = { rec .busy none with state := st, pending := j }) (hc : c.r = some l) (k : SW c ρ (two rec l mk .busy none []) Φ Ψ body R) : SP c ρ (two rec l mk .ready none []) Φ Ψ .normal (AQ c l body R) := fun a w hs => by
  have h1 : (rec .ready none).state = .ready := by rw [hrec]
  have h2 : ({ rec .ready none with state := .busy } : Loop) = rec .busy none := by rw [hrec .ready none, hrec .busy none]
  have hB : Upd (two rec l mk .ready none []) (.obj l (.loop (rec .ready none))) (.obj l (.loop { rec .ready none with state := .busy })) (two rec l mk .busy none []) := by rw [h2]; exact .hd
  obtain ⟨V, U, M, m⟩ := hs.mem
  have hl : w.heap[l]? = some (.loop (rec .ready none)) := m.sep.holds _ hB.mem
  refine ⟨_, run_beginRound hl h1, ?_⟩
  have h := k a (w.putObj l (.loop { rec .ready none with state := .busy })) (hs.mem' (hB.marks rfl) (m.turn hB rfl (putObj_same (Array.getElem?_eq_some_iff.1 hl).1) (by simp [World.putObj]) fun k hk => putObj_other fun e => hk (by rw [e]; rfl)))
  rw [hc] at h
  exact h
end

section
variable {c : Ctx} {ρ : List (Nat × Value)} {Φ Φ0 Φp : List Res} {Q : Post}
/-- 'for .. := range g { .. yield(..) .. }' in an iterator's body. -/
theorem sw_rangeI {σ σo α αo : Type} {gf : FuncId} {g : Operand} {caps : List Value} {ps : List Tmp} {assign body : Code} {E : α → List Value → Res} {L : List α} {lo : Nat} {Jo : σo → JR} {Eo : αo → List Value → Res} {Yo : σo → αo → σo} {go : σo → Bool} {Ao : σo → αo → Prop}
    (hc : ICtr c.P c.G gf caps [] Φp E L) (π : σ → σo) (jmp : σ → Option Code) (Y : σ → α → σ) (A : σ → α → Prop) (s0 : σ) {Ψ : List JR} (hΨ : Ψ = [Jo (π s0)]) (hY : Yields c.P lo Jo Eo Yo go Ao c.X) (hr : c.r = none) (hg : ev ρ g = some (.func (.func gf) #[] caps.toArray))
    (hA : Adm Y (fun s => (jmp s).isNone) A s0 L) (hj0 : jmp s0 = none) (hΦp : ∀ φ ∈ Φp, φ ∈ Φ) (hΦs : ∀ φ ∈ Φ0, φ ∈ Φ) (hps : (ps.all fun p => Nat.blt p c.nt) = true) (hE : ∀ x vs V w, (E x vs).p V w → vs.length = ps.length)
    (hbody : ∀ (l mk : Nat) (rec : LoopState → Option Code → Loop) (w : World) (X U M K Yv : Av) (s : σ) (x : α) (vs : List Value), (∀ st j, rec st j = { rec .busy none with state := st, pending := j }) → jmp s = none → A s x → TiedI ⟨c.P, some l, c.nt, w, X, K, Yv, c.G⟩ c l mk U M → Yields c.P lo (fun s => JU U (Jo s)) Eo Yo go Ao X →
      SW ⟨c.P, some l, c.nt, w, X, K, Yv, c.G⟩ (pr ps vs ρ) (two rec l mk .ready none []) (E x vs :: Φ0) [JU U (Jo (π s))] assign (AQ ⟨c.P, some l, c.nt, w, X, K, Yv, c.G⟩ l body (RQI ⟨c.P, some l, c.nt, w, X, K, Yv, c.G⟩ c rec l mk Φ0 (fun s => Jo (π s)) jmp (Y s x) U M)))
    (hend : ∀ s' mk, s' = runs Y (fun s => (jmp s).isNone) s0 L → (jmp s' = none → SP c ρ [.mark mk] Φ0 [Jo (π s')] .normal Q) ∧ ∀ j, jmp s' = some j → SW c ρ [.mark mk] Φ0 [Jo (π s')] j Q) :
    SW c ρ [] Φ Ψ (.rangeFunc g ps.toArray assign body) Q := by
  subst hΨ
  intro a w hs
  obtain ⟨V, U0, M0, m⟩ := hs.mem
  rw [hr]
  refine wpIn_rangeFunc fun fn _ => ?_
  obtain ⟨rec, hrec⟩ : ∃ rec : LoopState → Option Code → Loop, rec = recOf fn a.tmps ps.toArray assign body w.heap.size := ⟨_, rfl⟩
  have hrecB : ∀ st j, rec st j = { rec .busy none with state := st, pending := j } := fun st j => by rw [hrec]; rfl
  obtain ⟨w1, hw1⟩ : ∃ w1, w1 = (w.alloc (.deferred (some []))).alloc (.loop (rec .ready none)) := ⟨_, rfl⟩
  have hsz1 : w1.heap.size = w.heap.size + 2 := by rw [hw1]; simp
  have hold : ∀ b, b < w.heap.size → w1.heap[b]? = w.heap[b]? := fun b hb => by rw [hw1]; exact (heap_alloc_old _ _ _ (by simp; omega)).trans (heap_alloc_old _ _ _ hb)
  have hL1 : w1.heap[w.heap.size + 1]? = some (.loop (rec .ready none)) := by
    rw [hw1]; have := heap_alloc_new (w.alloc (.deferred (some []))) (.loop (rec .ready none)); rwa [World.size_alloc] at this
  have hK1 : w1.heap[w.heap.size]? = some (.deferred (some [])) := by
    rw [hw1]; exact (heap_alloc_old _ _ _ (by simp)).trans (heap_alloc_new w _)
  have hno : ∀ b, ¬ blks [] b := fun b ⟨o, ho, _⟩ => by cases ho
  have hsep2 : Sep (two rec (w.heap.size + 1) w.heap.size .ready none []) w1 := by
    refine ⟨fun o ho => ?_, List.pairwise_cons.2 ⟨fun o ho b h1 h2 => ?_, List.pairwise_cons.2 ⟨fun o ho => (by cases ho), .nil⟩⟩⟩
    · unfold two at ho
      cases ho with
      | head => exact hL1
      | tail _ ho => cases ho with
        | head => exact hK1
        | tail _ ho => cases ho
    · cases h1
      cases ho with
      | head => simp [Own.blk] at h2
      | tail _ ho => cases ho
  have hszw := m.sz
  have hM0 : ∀ b, M0 b → b < w.heap.size := fun b h => m.vlt b (m.vm b h)
  have hX : ∀ b, (V b ∨ b = w.heap.size + 1 ∨ b = w.heap.size) → b < w1.heap.size := fun b h => by
    rcases h with h | h | h
    · have := m.vlt b h; omega
    · omega
    · omega
  have kv1 : ∀ V' : Av, (∀ b, b < w.heap.size → V' b → V b) → Kept V V' w w1 := fun V' h => ⟨by omega, fun b hl _ => hold b hl, h⟩
  have hVX : ∀ b, b < w.heap.size → (V b ∨ b = w.heap.size + 1 ∨ b = w.heap.size) → V b := fun b hl h => by
    rcases h with h | h | h
    · exact h
    · omega
    · omega
  refine ⟨w.heap.size + 1, [{ target := .collected w.heap.size, args := #[] }], w1, { target := .fn (.func gf) caps.toArray, args := #[yv (w.heap.size + 1)] }, w1, gf, (yv (w.heap.size + 1) :: caps).toArray, w1, ?_, ?_, fun _ _ => trivial, ?_, fun h => (by cases h), ?_⟩
  · rw [hw1, hrec]; exact run_enterLoop_outer _ _ _ _ _
  · simp only [resolve, hs.ev hg]
    simp [Deferred.ofValue, Act.eval, yv]
  · simp only [invoke]
    rw [hc.enters]
    simp
  · have hMm : (fun b => (M0 b ∨ b = w.heap.size + 1 ∨ b = w.heap.size) ∧ b ≠ w.heap.size + 1 ∧ b ≠ w.heap.size) = M0 := by
      funext b
      exact propext ⟨fun ⟨h, h1, h2⟩ => h.elim id fun h => h.elim (fun h => absurd h h1) fun h => absurd h h2, fun h => ⟨.inl h, by have := hM0 b h; omega, by have := hM0 b h; omega⟩⟩
    have hJ0 : (JI c rec (w.heap.size + 1) w.heap.size Φ0 (fun s => Jo (π s)) jmp s0).p (fun b => M0 b ∨ b = w.heap.size + 1 ∨ b = w.heap.size) (blks []) w1 := by
      refine ⟨fun b => V b ∨ b = w.heap.size + 1 ∨ b = w.heap.size, fun b h => absurd h (hno b), fun b h => .inl (m.vx b h), fun b h => h.imp (m.vm b) id, fun b h => ⟨hno b, hX b (h.imp (m.vm b) id)⟩, ⟨.inr (.inl rfl), .inr (.inr rfl)⟩, by rw [hj0]; exact hsep2, fun φ hφ => φ.st (kv1 _ hVX) (m.phi φ (hΦs φ hφ)), c.G.st (kv1 _ hVX) m.g, ⟨by omega, hszw⟩, fun b h => ?_, ?_⟩
      · rcases h with h | h | h
        · exact m.mo b h
        · exact .inr (by omega)
        · exact .inr (by omega)
      · rw [hMm]
        refine (Jo (π s0)).st (U := U0) ⟨by omega, fun b hl _ => hold b hl, fun b hl h => ?_⟩ (m.psi _ (.head _))
        rcases h with h | h | h
        · exact absurd h (hno b)
        · omega
        · omega
    have hor : ∀ b, Or' (fun b => V b ∨ b = w.heap.size + 1 ∨ b = w.heap.size) (blks []) b → (V b ∨ b = w.heap.size + 1 ∨ b = w.heap.size) := fun b h => h.elim id fun h => absurd h (hno b)
    have hcall := hc.calls σ (JI c rec (w.heap.size + 1) w.heap.size Φ0 (fun s => Jo (π s)) jmp) Y (fun s => (jmp s).isNone) A (w.heap.size + 1) s0 w1 (fun b => V b ∨ b = w.heap.size + 1 ∨ b = w.heap.size) (fun b => M0 b ∨ b = w.heap.size + 1 ∨ b = w.heap.size) hX
      ⟨fun o ho => (by cases ho), .nil⟩ (fun b h => absurd h (hno b)) (fun b h => h.imp (m.vm b) id) (fun φ hφ => φ.st (kv1 _ fun b hl h => hVX b hl (hor b h)) (m.phi φ (hΦp φ hφ))) (c.G.st (kv1 _ fun b hl h => hVX b hl (hor b h)) m.g) hJ0 (by rw [hj0]; rfl) hA ?_
    · refine callsIn_fr (hcall.mono ?_)
      rintro e w2 ⟨v, s', M', B', Φ', rfl, ⟨hR, rfl, rfl⟩, hm', hsep', hbl', hphi', ⟨VJ, j1, j2, j3, j4, ⟨jl, jm⟩, j6, j7, j8, j9, j10, j11⟩, hM', ⟨hsz', hio'⟩, hk'⟩
      have hl2 : w2.heap[w.heap.size + 1]? = some (.loop (rec (stOf (jmp s')) (jmp s'))) := j6.holds _ (.head _)
      have hmk2 : w2.heap[w.heap.size]? = some (.deferred (some [])) := j6.holds _ (.tail _ (.head _))
      have hend1 := run_endLoop (P := c.P) hl2 (by rw [hrec]; cases jmp s' <;> simp [recOf, stOf])
      have hpend : (rec (stOf (jmp s')) (jmp s')).pending = jmp s' := by rw [hrec]; rfl
      obtain ⟨w4, hw4⟩ : ∃ w4, w4 = w2.putObj (w.heap.size + 1) (.loop { rec (stOf (jmp s')) (jmp s') with state := .exhausted }) := ⟨_, rfl⟩
      have hsz4 : w4.heap.size = w2.heap.size := by rw [hw4]; simp [World.putObj]
      have hk4 : ∀ b, b ≠ w.heap.size + 1 → w4.heap[b]? = w2.heap[b]? := fun b hb => by rw [hw4]; exact putObj_other hb
      have hbk : ∀ b, blks [.mark w.heap.size] b → b = w.heap.size := fun b ⟨o, ho, e⟩ => by
        cases ho with
        | head => cases e; rfl
        | tail _ ho => cases ho
      have hst : St c ρ [.mark w.heap.size] Φ0 [Jo (π s')] { a with defers := [{ target := .collected w.heap.size, args := #[] }] ++ a.defers } w4 := by
        refine ⟨hs.nt, hs.reg, ?_, fun b => c.X b ∨ M' b, fun b => b = w.heap.size + 1 ∨ b = w.heap.size, fun b => M' b ∧ b ≠ w.heap.size + 1 ∧ b ≠ w.heap.size, ?_⟩
        · have h1 : a.defers = [] := hs.dfr.trans (by unfold dfs; rw [hr]; rfl)
          show [_] ++ a.defers = dfs c [.mark w.heap.size]
          rw [show dfs c [.mark w.heap.size] = marks [.mark w.heap.size] by unfold dfs; rw [hr], h1]
          rfl
        · have kvJ : Kept VJ (fun b => c.X b ∨ M' b) w2 w4 := ⟨by omega, fun b _ hn => hk4 b fun e => hn (j3 b (by rw [e]; exact jl)), fun b _ h => h.elim (j2 b) (j3 b)⟩
          have hio4 : Io c.w0 w4 := m.io.trans (Io.trans (b := w1) ⟨by rw [hw1]; rfl, by rw [hw1]; rfl, by rw [hw1]; rfl⟩ (hio'.trans ⟨by rw [hw4]; rfl, by rw [hw4]; rfl, by rw [hw4]; rfl⟩))
          refine ⟨fun b h => .inl h, fun b h => .inr h.1, fun b h => .inr (by rw [hbk b h]; exact jm), fun b h => ?_, fun b h => .inr (hbk b h), fun b h => ?_, ⟨fun o ho => ?_, List.pairwise_cons.2 ⟨fun o ho => (by cases ho), .nil⟩⟩, fun b h => ?_, fun φ hφ => φ.st kvJ (j7 φ hφ), fun ψ h => ?_, c.G.st kvJ j8, by omega, fun b h1 h2 h3 => ?_, m.xlt, fun b h => ?_, hio4⟩
          · rcases h with h | h
            · have := m.xlt b h; omega
            · have := (hM' b h).2; omega
          · rcases h with h | h
            · omega
            · omega
          · cases ho with
            | head => exact (hk4 _ (by omega)).trans hmk2
            | tail _ ho => cases ho
          · rw [hbk b h]
            exact ⟨.inr hszw, fun hx => by have := m.xlt _ hx; omega, fun h => h.2.2 rfl⟩
          · cases h with
            | tail _ h => cases h
            | head =>
              refine (Jo (π s')).st ⟨by omega, fun b _ hn => hk4 b fun e => hn (.inr (.inl e)), fun b _ h => .inr h⟩ j11
          · refine (hk4 b (by omega)).trans ((hk' b (by omega) (hno b) fun h => ?_).trans ((hold b (by omega)).trans (m.frame b h1 h2 h3)))
            rcases h with h | h | h
            · exact (m.mo b h).elim h3 fun h => by omega
            · omega
            · omega
          · rcases (hM' b h.1).1 with h' | h'
            · rcases h' with h' | h' | h'
              · exact m.mo b h'
              · exact absurd h' h.2.1
              · exact absurd h' h.2.2
            · exact .inr (by omega)
      obtain ⟨e1, e2⟩ := hend s' w.heap.size hR
      refine ⟨(rec (stOf (jmp s')) (jmp s')).pending, w4, by rw [hw4]; exact hend1, ?_⟩
      rw [hpend]
      cases hjs : jmp s' with
      | none => exact e1 hjs _ w4 hst
      | some j =>
        have := e2 j hjs _ w4 hst
        rw [hr] at this
        exact this
    · -- a round
      intro s x vs wy VE U M hgo hAs hXV hJ hMV hUV hVlt hEl
      have hj : jmp s = none := by simpa using hgo
      obtain ⟨VJ, j1, j2, j3, j4, ⟨jl, jm⟩, j6, j7, j8, ⟨j9, j9'⟩, j10, j11⟩ := hJ
      rw [hj] at j6
      have hl : wy.heap[w.heap.size + 1]? = some (.loop (rec .ready none)) := j6.holds _ (.head _)
      have hlen := hE x vs VE wy hEl
      have hy := run_yield (P := c.P) (args := vs.toArray) hl (by rw [hrec]; simp [recOf, hlen])
      rw [hrec] at hy
      have hXc : ∀ b, c.X b → VE b := fun b h => hXV b (.inl (m.vx b h))
      have hul : ∀ b, (U b ∨ c.X b) → b < wy.heap.size := fun b h => h.elim (fun h => hVlt b (hUV b h)) fun h => hVlt b (hXc b h)
      have hw0 : c.w0.heap.size ≤ wy.heap.size := by have := (j4 _ jm).2; omega
      have htied : TiedI ⟨c.P, some (w.heap.size + 1), c.nt, wy, fun b => (U b ∨ c.X b), fun b => b = w.heap.size + 1 ∨ b = w.heap.size, fun b => M b ∧ b ≠ w.heap.size + 1 ∧ b ≠ w.heap.size, c.G⟩ c (w.heap.size + 1) w.heap.size U M := ⟨rfl, fun b h => .inr h, fun b h => .inl h, fun b h => (by
        rcases h with h | h
        · rw [h]; exact jl
        · rw [h]; exact jm), fun b h => h.1, fun b h => ⟨(j4 b h).1, (j4 b h).2, j10 b h⟩, ⟨jl, jm, j9, j9'⟩, hw0⟩
      have hbd := hbody (w.heap.size + 1) w.heap.size rec wy (fun b => (U b ∨ c.X b)) U M (fun b => b = w.heap.size + 1 ∨ b = w.heap.size) (fun b => M b ∧ b ≠ w.heap.size + 1 ∧ b ≠ w.heap.size) s x vs hrecB hj hAs htied (hY.more (fun b h => .inr h) fun b h => .inl h) { tmps := (ps.zip vs).foldl (fun t q => t.setIfInBounds q.1 q.2) a.tmps, defers := [] } wy
        ⟨by rw [size_foldl_set]; exact hs.nt, pr_regs (c := c) ps vs ρ a.tmps (fun p hp => by rw [hs.nt]; simpa using List.all_eq_true.1 hps p hp) hs.reg, rfl,
          fun b => (VJ b ∧ VE b), fun b => U b ∨ b = w.heap.size + 1 ∨ b = w.heap.size, fun b => M b ∧ b ≠ w.heap.size + 1 ∧ b ≠ w.heap.size, ?_⟩
      · refine ⟨fn, _, assign, body, hy, roundIn_of_wpIn trivial (n := 0) ?_⟩
        have hz : ((recOf fn a.tmps ps.toArray assign body w.heap.size .ready none).params.zip vs.toArray).foldl (fun tmps (t, a) => tmps.setIfInBounds t a) (recOf fn a.tmps ps.toArray assign body w.heap.size .ready none).tmps = (ps.zip vs).foldl (fun t q => t.setIfInBounds q.1 q.2) a.tmps := by
          simp [recOf]
        rw [hz]
        exact hbd
      · have hb2 : ∀ b, blks (two rec (w.heap.size + 1) w.heap.size .ready none []) b → b = w.heap.size + 1 ∨ b = w.heap.size := fun b ⟨o, ho, e⟩ => by
          unfold two at ho
          cases ho with
          | head => cases e; exact .inl rfl
          | tail _ ho => cases ho with
            | head => cases e; exact .inr rfl
            | tail _ ho => cases ho
        have hbM : ∀ b, (b = w.heap.size + 1 ∨ b = w.heap.size) → M b := fun b h => by
          rcases h with h | h
          · rw [h]; exact jl
          · rw [h]; exact jm
        refine ⟨fun b h => h.elim (fun h => ⟨j1 b h, hUV b h⟩) fun h => ⟨j2 b h, hXc b h⟩, fun b h => ⟨j3 b h.1, hMV b h.1⟩, fun b h => ⟨j3 b (hbM b (hb2 b h)), hMV b (hbM b (hb2 b h))⟩, fun b h => hVlt b h.2, fun b h => .inr (hb2 b h), fun b h => h.elim (fun h => hVlt b (hUV b h)) fun h => (j4 b (hbM b h)).2, j6, fun b h => ⟨.inl (hb2 b h), fun h' => ?_, fun h' => (hb2 b h).elim h'.2.1 h'.2.2⟩,
          List.forall_mem_cons.2 ⟨(E x vs).less hEl fun b h => h.2, fun φ hφ => φ.less (j7 φ hφ) fun b h => h.1⟩, fun ψ h => ?_, c.G.less j8 fun b h => h.1, Nat.le_refl _, fun _ _ _ _ => rfl, hul, fun b h => .inl h, Io.refl wy⟩
        · rcases h' with h' | h'
          · exact (j4 b (hbM b (hb2 b h))).1 h'
          · have := m.xlt b h'
            rcases hb2 b h with h | h
            · omega
            · omega
        · cases h with
          | tail _ h => cases h
          | head => exact ⟨fun b h => hVlt b (hUV b h), _, fun b h => .inl h, fun b h => h, j11⟩
end

section
variable {c : Ctx} {ρ : List (Nat × Value)} {B B0 : List Own} {Φ : List Res} {fn : Func}
/-- An iterator's end where marks are left. -/
theorem sp_iendM {σ : Type} {J : σ → JR} {R : σ → List Own → List Res → Prop} {s' : σ} (hc : c.r = none) (hr : fn.results = #[]) (hp : R s' [] []) :
    ∀ a w, St c ρ B Φ [J s'] a w → LeavesInM (Fr none) 0 c.P fn a.tmps (fun e w' => ∃ v s' M' B' Φ', e = .returned v ∧ R s' B' Φ' ∧ marks B' = [] ∧ Sep B' w' ∧ (∀ b, blks B' b → ¬ c.X b ∧ ¬ M' b ∧ (blks B0 b ∨ c.w0.heap.size ≤ b)) ∧
      (∀ φ ∈ Φ', φ.p (Or' (Or' c.X M') (blks B')) w') ∧ (J s').p M' (blks B') w' ∧ (∀ b, M' b → (c.Y b ∨ c.w0.heap.size ≤ b) ∧ b < w'.heap.size) ∧ (c.w0.heap.size ≤ w'.heap.size ∧ Io c.w0 w') ∧ ∀ b, b < c.w0.heap.size → ¬ c.K b → ¬ c.Y b → w'.heap[b]? = c.w0.heap[b]?) a.defers .returning w := by
  intro a w hs
  obtain ⟨V, U, M, m⟩ := hs.mem
  rw [hs.dfr, show dfs c B = marks B by unfold dfs; rw [hc]]
  refine leaves_marks B w m.sep fun w' h1 hi h2 => ?_
  have hout : ∀ b, ¬ blks B b → w'.heap[b]? = w.heap[b]? := fun b hb => h2 b fun o ho e => hb ⟨o, ho, by subst e; rfl⟩
  refine ⟨_, results_none hr a.tmps w', _, s', M, [], [], rfl, hp, rfl, ⟨fun o ho => (by cases ho), .nil⟩, fun b ⟨o, ho, _⟩ => (by cases ho), fun φ h => (by cases h), (J s').st ⟨by omega, fun b _ hn => hout b fun h => hn (m.ub b h), fun b _ ⟨o, ho, _⟩ => (by cases ho)⟩ (m.psi _ (.head _)), fun b h => ⟨m.mo b h, by have := m.vlt b (m.vm b h); omega⟩, ⟨by have := m.sz; omega, m.io.trans hi⟩, fun b h3 h4 h5 => ?_⟩
  refine Eq.trans (hout b fun h => ?_) (m.frame b h3 h4 h5)
  rcases (m.own b h).1 with h' | h'
  · exact h4 h'
  · omega
theorem sp_inormM {σ : Type} {J : σ → JR} {R : σ → List Own → List Res → Prop} {s' : σ} (hc : c.r = none) (hr : fn.results = #[]) (hK : c.K = blks B0) (hp : R s' [] []) : SP c ρ B Φ [J s'] .normal (IQ c fn B0 J R) := fun a w hs => by
  have := sp_iendM (B0 := B0) (J := J) (R := R) hc hr hp a w hs
  rw [hK] at this
  exact this
theorem sp_iretM {σ : Type} {J : σ → JR} {R : σ → List Own → List Res → Prop} {s' : σ} (hc : c.r = none) (hr : fn.results = #[]) (hK : c.K = blks B0) (hp : R s' [] []) : SP c ρ B Φ [J s'] .ret (IQ c fn B0 J R) := fun a w hs => by
  have := sp_iendM (B0 := B0) (J := J) (R := R) hc hr hp a w hs
  rw [hK] at this
  exact this
end
end Go.Proofs.YtjahiohlekdhoaaDoor

namespace Go.Proofs.YtjahiohlekdhoaaDoor
open Go

section
variable {c : Ctx} {ρ : List (Nat × Value)} {B B' Br : List Own} {Φ : List Res} {Ψ : List JR} {ops : Array Oper} {rest : List Oper} {Q : Post} {d ty t : Nat} {ps : String} {af : Array Edge} {x y z : Operand} {v u z0 z1 : Value}
  {ba : Option Addr} {n cap : Nat} {cs : List Value} {m : Int} {kk : IntKind} {e sz by' : Nat} {code : Code}

theorem range_zero {z : Array Value} {z1 : Value} {k n : Nat} (h : z = Array.replicate k z1) (hk : 0 < k) : (Array.range n).map (z[· % z.size]!) = Array.replicate n z1 := by
  subst h
  refine Array.ext (by simp) fun i h1 h2 => ?_
  simp only [Array.getElem_map, Array.getElem_range, Array.size_replicate, Array.getElem_replicate]
  rw [getElem!_pos _ _ (by simpa using Nat.mod_lt _ hk)]
  simp

/-- 'make([]T, n)': a row of one's own. -/
theorem r_make (ht : tSl c.P t = some (e, sz, by')) (hz : tZ c.P e = some z0) (hzc : z0.cells = Array.replicate sz z1) (hx : ev ρ x = some (.int kk (n : Int))) (hsz0 : Nat.beq sz 0 = false) (h0 : 0 < n) (hn : n ≤ 1099511627776) (hby' : n * by' ≤ 140737488355328) (hb : Nat.blt d c.nt = true)
    (k : ∀ b, SL c ((d, .slice (some ⟨b, 0, none⟩) n n) :: ρ) (.row (.slice (some ⟨b, 0, none⟩) n n) n (List.replicate (n * sz) z1) e sz :: B) Φ Ψ ops rest Q) :
    SL c ρ B Φ Ψ ops (⟨some d, .makeSlice t x x, ty, ps, af, none⟩ :: rest) Q :=
  sl_plain rfl fun a w hs K hK => by
    obtain ⟨hu, ii, hii, hsz, hby⟩ := tSl_inv ht
    have hz' : ii.zero = some z0 := by unfold tZ at hz; simpa [hii] using hz
    have hszp : 0 < sz := Nat.pos_of_ne_zero (ne_of_beq hsz0)
    have hr := range_zero (n := n * sz) hzc hszp
    have hown : (w.alloc (.cells (Array.replicate (n * sz) z1) e)).ownsRow 0 e sz (.slice (some ⟨w.heap.size, 0, none⟩) n n) n (List.replicate (n * sz) z1) := by
      have := World.ownsRow_lit (base := 0) (e := e) (size := sz) w (Array.replicate (n * sz) z1) n (Nat.zero_le _) (by unfold maxLen; omega) (by simp)
      simpa using this
    refine op_value (v := .slice (some ⟨w.heap.size, 0, none⟩) n n) (w' := w.alloc (.cells (Array.replicate (n * sz) z1) e)) (fun _ => by simp) ?_ (hK _ _ (k w.heap.size _ _ ?_))
    · have wl : IntKind.i64.wrap (n : Int) = n := by rw [IntKind.wrap_i64]; omega
      have n1 : ¬ (n : Int) < 0 := by omega
      have n2 : ¬ (281474976710656 < (ii.bytes : Int) * n) := by
        rw [hby]
        have h : ((n * by' : Nat) : Int) ≤ 140737488355328 := Int.ofNat_le.2 hby'
        rw [Int.natCast_mul, Int.mul_comm] at h
        omega
      simp [execOp, Instr.makeSlice, hs.ev hx, run_underlying hu, asInt, asIntOf, typeInfo, hii, sizeOf, zeroValue, hz', wl, n1, n2, hsz, newRow, askRoom, roomBytes]
      rw [hr, if_neg (Nat.mul_ne_zero (by omega) (by omega))]
    · obtain ⟨V, U, M, m⟩ := hs.mem
      obtain ⟨V', U', m'⟩ := m.newRow hown (fun b h => by simp [Value.ownBlock] at h; omega) (World.grownBy_alloc w _ none)
      exact (hs.put hb _).mem' rfl m'

/-- A row of one's own that is not empty: a box behind a slice. -/
theorem o_rowBox {xs : List Value} (h0 : 0 < n) (k : ∀ b cap cs, v = .slice (some ⟨b, 0, none⟩) n cap → n ≤ cap → cap ≤ maxLen → cs.length = cap * sz → cs.take (n * sz) = xs → xs.length = n * sz → SL c ρ (.box b cs e :: B) Φ Ψ ops rest Q) : SL c ρ (.row v n xs e sz :: B) Φ Ψ ops rest Q := fun a w hs => by
  obtain ⟨V, U, M, m⟩ := hs.mem
  obtain ⟨hlen, hh⟩ : w.ownsRow 0 e sz v n xs := m.sep.holds _ (.head _)
  rcases hh with ⟨_, h⟩ | ⟨g, cap, cur, rfl, hg0, hg, hnc, hcm, hcs, htake⟩
  · omega
  · have hbl : ∀ b, blks (.box g cur.toList e :: B) b ↔ blks (.row (.slice (some ⟨g, 0, none⟩) n cap) n xs e sz :: B) b := fun b => by simp [blks, Own.blk, Value.ownBlock]
    refine k g cap cur.toList rfl hnc hcm (by simpa using hcs) htake hlen a w ⟨hs.nt, hs.reg, hs.dfr, V, U, M, ⟨m.vx, m.vm, fun b h => m.vb b ((hbl b).1 h), m.vlt, fun b h => m.ub b ((hbl b).1 h), m.ult, ⟨fun q hq => ?_, .cons (fun q hq b h => ?_) (List.pairwise_cons.1 m.sep.apart).2⟩, fun b h => m.own b ((hbl b).1 h), m.phi, m.psi, m.g, m.sz, m.frame, m.xlt, m.mo, m.io⟩⟩
    · cases hq with
      | head => exact hg
      | tail _ h => exact m.sep.holds q (.tail _ h)
    · exact (List.pairwise_cons.1 m.sep.apart).1 q hq b h
theorem wo_rowBox {xs : List Value} (h0 : 0 < n) (k : ∀ b cap cs, v = .slice (some ⟨b, 0, none⟩) n cap → n ≤ cap → cap ≤ maxLen → cs.length = cap * sz → cs.take (n * sz) = xs → xs.length = n * sz → SW c ρ (.box b cs e :: B) Φ Ψ code Q) : SW c ρ (.row v n xs e sz :: B) Φ Ψ code Q :=
  fun a w hs => o_rowBox (ops := #[]) (rest := []) (Q := fun _ a w => code.wpIn (Fr c.r) 0 c.P Q a w) h0 (fun b cap cs h1 h2 h3 h4 h5 h6 a w hs => k b cap cs h1 h2 h3 h4 h5 h6 a w hs) a w hs

/-- An element of a row of one's own: its address. -/
theorem r_idx_own {b i : Nat} (ht : tSl c.P t = some (e, sz, by') := by exact tl rfl) (hx : ev ρ x = some (.slice (some ⟨b, 0, none⟩) n cap) := by exact rfl) (hy : ev ρ y = some (.int kk m) := by exact rfl) (h0 : 0 ≤ m := by omega) (h1 : m < n := by omega) (hi : m.toNat = i := by first | exact Int.toNat_natCast _ | exact rfl)
    (hb : Nat.blt d c.nt = true := by exact rfl) (k : SL c ((d, .pointer (some ⟨b, i * sz, none⟩)) :: ρ) B Φ Ψ ops rest Q) : SL c ρ B Φ Ψ ops (⟨some d, .indexAddr t x y, ty, ps, af, none⟩ :: rest) Q :=
  r_val rfl (fun _ => by simp) rfl hb (fun a w hs => by
    obtain ⟨hu, ii, hii, hsz, _⟩ := tSl_inv ht
    subst hi
    simp [execOp, hs.ev hx, hs.ev hy, Instr.indexAt, asIntOf, run_underlying hu, h0, h1, sizeOf, typeInfo, hii, hsz, addr_add]) k
/-- A fact of a part of a row. -/
theorem mem_take {V : Av} {w : World} {k : Nat} (h : (Res.mem ba cs).p V w) : (Res.mem ba (cs.take k)).p V w := fun i v hv => h i v (by
  rw [List.getElem?_take] at hv
  split at hv
  · exact hv
  · cases hv)
end

theorem foldl_set (off : Nat) : ∀ (l : List Value) (j : Nat) (cs : Array Value), off + j + l.length ≤ cs.size →
    ((l.zipIdx j).foldl (fun cs p => cs.setIfInBounds (off + p.2) p.1) cs).toList = cs.toList.take (off + j) ++ l ++ cs.toList.drop (off + j + l.length) := by
  intro l
  induction l with
  | nil => intro j cs _; simp
  | cons u l ih =>
    intro j cs hj
    simp only [List.zipIdx_cons, List.foldl_cons]
    rw [ih (j + 1) _ (by simp at hj ⊢; omega)]
    have e := list_seg_step cs.toList (off + j) u l (by simp at hj ⊢; omega)
    simpa [Array.toList_setIfInBounds, Nat.add_assoc] using e
/-- One part laid in. -/
theorem fill_cons {place : Nat → Option (Nat × Nat)} {cells : Array Value} {i off sz : Nat} {v : Value} {vs : List Value} {rest : List (Nat × Value)} (hp : place i = some (off, sz)) (hv : v.cells = vs.toArray) (hs : vs.length = sz) (hle : off + sz ≤ cells.size) :
    Instr.fill place cells ((i, v) :: rest) = Instr.fill place (splice cells.toList off vs).toArray rest := by
  have h1 : v.cells.size = sz := by rw [hv]; simpa using hs
  rw [Instr.fill]
  simp only [hp]
  rw [if_neg (by simp [h1]; omega)]
  congr 1
  have e : v.cells.zipIdx.foldl (fun cs x => cs.setIfInBounds (off + x.2) x.1) cells = (vs.zipIdx 0).foldl (fun cs p => cs.setIfInBounds (off + p.2) p.1) cells := by
    rw [hv, ← Array.foldl_toList, Array.toList_zipIdx]
  rw [e]
  refine Array.ext' ?_
  rw [foldl_set off vs 0 cells (by omega)]
  simp [splice]

section
variable {c : Ctx} {ρ : List (Nat × Value)} {B B' : List Own} {Φ : List Res} {Ψ : List JR} {l : Nat} {rec : LoopState → Option Code → Loop} {body : Code} {R : Post}
/-- A round begins, other blocks being there. -/
theorem sp_asgU (hrec : ∀ st j, rec st j = { rec .busy none with state := st, pending := j }) (hc : c.r = some l) (hB : Upd B (.obj l (.loop (rec .ready none))) (.obj l (.loop (rec .busy none))) B') (k : SW c ρ B' Φ Ψ body R) : SP c ρ B Φ Ψ .normal (AQ c l body R) := fun a w hs => by
  have h1 : (rec .ready none).state = .ready := by rw [hrec]
  have h2 : ({ rec .ready none with state := .busy } : Loop) = rec .busy none := by rw [hrec .ready none, hrec .busy none]
  rw [← h2] at hB
  obtain ⟨V, U, M, m⟩ := hs.mem
  have hl : w.heap[l]? = some (.loop (rec .ready none)) := m.sep.holds _ hB.mem
  refine ⟨_, run_beginRound hl h1, ?_⟩
  have h := k a (w.putObj l (.loop { rec .ready none with state := .busy })) (hs.mem' (hB.marks rfl) (m.turn hB rfl (putObj_same (Array.getElem?_eq_some_iff.1 hl).1) (by simp [World.putObj]) fun k hk => putObj_other fun e => hk (by rw [e]; rfl)))
  rw [hc] at h
  exact h
end

section
variable {c : Ctx} {ρ : List (Nat × Value)} {B : List Own} {Φ : List Res} {Ψ : List JR} {ops : Array Oper} {rest : List Oper} {Q : Post} {d ty t : Nat} {ps : String} {af : Array Edge} {x y : Operand} {cs vs : List Value} {m : Int} {kk : IntKind} {e sz : Nat}
/-- 'a[i]' of an array's value, the element being of more cells. -/
theorem r_indexA {i len : Nat} (ht : tAr c.P t = some (len, e, sz) := by exact ta rfl) (he : tSz c.P e = some (true, sz) := by exact tz rfl) (hx : ev ρ x = some (.agg cs.toArray) := by exact rfl) (hy : ev ρ y = some (.int kk m) := by exact rfl) (h0 : 0 ≤ m) (h1 : m < len) (hi : m.toNat = i) (hv : part' cs (i * sz) sz = vs) (hl : vs.length = sz) (hb : Nat.blt d c.nt = true := by exact rfl) (k : SL c ((d, .agg vs.toArray) :: ρ) B Φ Ψ ops rest Q) :
    SL c ρ B Φ Ψ ops (⟨some d, .index t x y, ty, ps, af, none⟩ :: rest) Q :=
  r_val rfl (fun _ => by simp) rfl hb (fun a w hs => by
    obtain ⟨hu, ii, hii, hsz⟩ := tAr_inv ht
    subst hi
    simp [execOp, hs.ev hx, hs.ev hy, Instr.index, asIntOf, run_underlying hu, h0, h1, sizeOf, typeInfo, hii, hsz, part, run_isAgg he]
    exact hv) k
end
section
variable {c : Ctx} {ρ : List (Nat × Value)} {B B' B0 Br : List Own} {Φ Φ' : List Res} {Ψ : List JR} {ops : Array Oper} {rest : List Oper} {Q : Post} {d ty t : Nat} {ps : String} {af : Array Edge} {x y z : Operand} {v u : Value} {xt yt : TypeId} {m n : Int} {kk : IntKind}

theorem r_or8 {a b : UInt8} (hx : ev ρ x = some (v8 a) := by exact rfl) (hy : ev ρ y = some (v8 b) := by exact rfl) (hb : Nat.blt d c.nt = true := by exact rfl) (k : SL c ((d, v8 (a ||| b)) :: ρ) B Φ Ψ ops rest Q) : SL c ρ B Φ Ψ ops (⟨some d, .binOp .or xt x y yt, ty, ps, af, none⟩ :: rest) Q :=
  r_bin hx hy hb (fun w => by
    have e := wr8 (a ||| b)
    simp [eqGuard, binOp, Op.intBits, IntKind.bits] at e ⊢
    exact e) k
end
end Go.Proofs.YtjahiohlekdhoaaDoor

namespace Go.Proofs.YtjahiohlekdhoaaDoor
open Go

theorem z147 : tZ Tryd.prog 147 = some (.agg (vi 0 :: List.replicate 256 (Value.int .u8 0)).toArray) := by kernel_rfl

section
variable {α : Type} {cs : α → List Value} {n : Nat}
theorem fm_len : ∀ (L : List α), (∀ a ∈ L, (cs a).length = n) → (L.flatMap cs).length = L.length * n
  | [], _ => by simp
  | a :: l, h => by
    rw [List.flatMap_cons, List.length_append, h a (.head _), fm_len l fun b hb => h b (.tail _ hb), List.length_cons, Nat.add_mul, Nat.one_mul, Nat.add_comm]
theorem fm_drop : ∀ (L : List α) (i : Nat), (∀ a ∈ L, (cs a).length = n) → (L.flatMap cs).drop (i * n) = (L.drop i).flatMap cs
  | [], i, _ => by simp
  | a :: l, 0, _ => by simp
  | a :: l, i + 1, h => by
    have e : (i + 1) * n = (cs a).length + i * n := by rw [h a (.head _), Nat.add_mul, Nat.one_mul, Nat.add_comm]
    rw [e, ← List.drop_drop, List.flatMap_cons, List.drop_left, fm_drop l i fun b hb => h b (.tail _ hb), List.drop_succ_cons]
theorem fm_at (L : List α) (i : Nat) (h : ∀ a ∈ L, (cs a).length = n) (hi : i < L.length) : part' (L.flatMap cs) (i * n) n = cs L[i] := by
  rw [part', fm_drop L i h, drop_cons L i hi, List.flatMap_cons]
  have e := h L[i] (List.getElem_mem hi)
  rw [← e, List.take_left]
theorem fm_get (L : List α) (i j : Nat) (h : ∀ a ∈ L, (cs a).length = n) (hi : i < L.length) {v : Value} (hj : (cs L[i])[j]? = some v) : (L.flatMap cs)[i * n + j]? = some v := by
  have h1 := fm_at L i h hi
  have h2 : (part' (L.flatMap cs) (i * n) n)[j]? = some v := by rw [h1]; exact hj
  exact (part'_get h2).2
theorem fm_one (L : List α) (h : ∀ a ∈ L, (cs a).all Value.oneCell' = true) : (L.flatMap cs).all Value.oneCell' = true := by
  rw [List.all_flatMap]
  exact List.all_eq_true.2 h
end

structure WrV where
  at' : Int
  data : List UInt8
def WrV.cs (w : WrV) : List Value := vi w.at' :: bv w.data
def WrV.v (w : WrV) : Value := .agg w.cs.toArray
/-- A disk: what it holds. -/
structure DiskP where
  pages : List (List UInt8)
  cache : List WrV
  bad : List Int
  off : Bool
/-- A disk: where it lies. -/
structure DiskV where
  pages : Sl (List UInt8)
  cache : Sl WrV
  bad : Sl Int
  off : Bool
def DiskV.pure (d : DiskV) : DiskP := ⟨d.pages.xs, d.cache.xs, d.bad.xs, d.off⟩
def DiskV.cs (d : DiskV) : List Value := [d.pages.v, d.cache.v, d.bad.v, vb d.off]
def DiskV.v (d : DiskV) : Value := .agg d.cs.toArray
def pgsV (L : List (List UInt8)) : List Value := L.flatMap bv
def wrsV (L : List WrV) : List Value := L.flatMap WrV.cs
def isV (L : List Int) : List Value := L.map vi
def DiskV.rp (d : DiskV) : Res := Res.mem d.pages.ba (pgsV d.pages.xs)
def DiskV.rc (d : DiskV) : Res := Res.mem d.cache.ba (wrsV d.cache.xs)
def DiskV.rb (d : DiskV) : Res := Res.mem d.bad.ba (isV d.bad.xs)
/-- What the disks here keep to. -/
structure DiskP.fine (d : DiskP) : Prop where
  n0 : 32 ≤ d.pages.length
  n1 : d.pages.length ≤ 64
  c : d.cache.length ≤ 1000
  pg : ∀ x ∈ d.pages, x.length = 256
  cd : ∀ x ∈ d.cache, x.data.length = 256
  ca : ∀ x ∈ d.cache, 0 ≤ x.at' ∧ x.at' < d.pages.length
  bd : d.bad = [] ∨ ∃ k, d.bad = [k] ∧ 0 ≤ k ∧ k < d.pages.length
  of : d.off = true → d.cache = []
structure DiskV.ok (d : DiskV) : Prop where
  p : d.pages.ok
  c : d.cache.ok
  b : d.bad.ok
  f : d.pure.fine

theorem pgsV_h {d : DiskP} (h : d.fine) : ∀ x ∈ d.pages, (bv x).length = 256 := fun x hx => by rw [bv_len]; exact h.pg x hx
theorem wrsV_h {d : DiskP} (h : d.fine) : ∀ x ∈ d.cache, x.cs.length = 257 := fun x hx => by rw [WrV.cs, List.length_cons, bv_len, h.cd x hx]
theorem pgsV_len {d : DiskP} (h : d.fine) : (pgsV d.pages).length = d.pages.length * 256 := fm_len _ (pgsV_h h)
theorem wrsV_len {d : DiskP} (h : d.fine) : (wrsV d.cache).length = d.cache.length * 257 := fm_len _ (wrsV_h h)
theorem isV_len (L : List Int) : (isV L).length = L.length := List.length_map _
theorem pgsV_one (L : List (List UInt8)) : (pgsV L).all Value.oneCell' = true := fm_one L fun x _ => bv_one x
theorem wrsV_one (L : List WrV) : (wrsV L).all Value.oneCell' = true := fm_one L fun x _ => by
  show (vi x.at' :: bv x.data).all _ = true
  rw [List.all_cons, bv_one]; rfl
theorem isV_one (L : List Int) : (isV L).all Value.oneCell' = true := by
  simp only [isV, List.all_map, List.all_eq_true]
  intro x _; rfl
theorem bad_len {d : DiskP} (h : d.fine) : d.bad.length ≤ 1 := by
  rcases h.bd with h | ⟨k, h, _⟩
  · rw [h]; simp
  · rw [h]; simp

def one (v : Value) : Prop := v.cells = #[v] ∧ v.oneCell' = true
/-- A disk whose rows are one's own. -/
def rowsD (p c b : Value) (d : DiskP) : List Own := [.row p d.pages.length (pgsV d.pages) 37 256, .row c d.cache.length (wrsV d.cache) 147 257, .row b d.bad.length (isV d.bad) 3 1]
def retDisk (d : DiskP) : PostC := fun v B' Φ' => ∃ p c b, one p ∧ one c ∧ one b ∧ v = .agg #[p, c, b, vb d.off] ∧ B' = rowsD p c b d ∧ Φ' = []
/-- What is told is a disk that changes no more. -/
def retFz (d : DiskP) : PostC := retF fun v Φ' => ∃ x : DiskV, v = x.v ∧ x.ok ∧ x.pure = d ∧ Φ' = [x.rp, x.rc, x.rb]

section
variable {c : Ctx} {ρ : List (Nat × Value)} {B : List Own} {Φ : List Res} {Ψ : List JR} {ops : Array Oper} {rest : List Oper} {Q : Post} {p q r : Value} {d : DiskP}
/-- The rows change no more. -/
theorem o_disk (h : d.fine) (k : ∀ x : DiskV, x.ok → x.pure = d → p = x.pages.v → q = x.cache.v → r = x.bad.v → SL c ρ B (x.rb :: x.rc :: x.rp :: Φ) Ψ ops rest Q) : SL c ρ (rowsD p q r d ++ B) Φ Ψ ops rest Q := by
  refine o_row (n := d.pages.length) (xs := pgsV d.pages) fun ba cap e1 h1 h2 _ => ?_
  refine o_row (n := d.cache.length) (xs := wrsV d.cache) fun ba' cap' e2 h3 h4 _ => ?_
  refine o_row (n := d.bad.length) (xs := isV d.bad) fun ba'' cap'' e3 h5 h6 _ => ?_
  exact k ⟨⟨ba, cap, d.pages⟩, ⟨ba', cap', d.cache⟩, ⟨ba'', cap'', d.bad⟩, d.off⟩ ⟨⟨h1, h2⟩, ⟨h3, h4⟩, ⟨h5, h6⟩, h⟩ rfl e1 e2 e3
end
end Go.Proofs.YtjahiohlekdhoaaDoor

namespace Go.Proofs.YtjahiohlekdhoaaDoor
open Go

theorem flat_vi (l : List Int) : (l.flatMap fun n => [vi n]) = isV l := by
  induction l with
  | nil => rfl
  | cons a l ih => rw [List.flatMap_cons, ih]; rfl
theorem rdInts : Rd Tryd.prog 58 (fun s : Sl Int => [s.v]) fun s w => s.ok ∧ (Res.mem s.ba (isV s.xs)).p V0 w ∧ ∀ a ∈ s.xs, i64ok a := by
  intro H enc w base spare held fuel cells x h
  obtain ⟨s, h1, h2, h3, h4⟩ := rd_slice (t := 58) (e := 3) (n := 1) (by kernel_rfl) rdi (fun _ => rfl) (by kernel_rfl) rfl h
  exact ⟨s, h1, h2, by rw [← flat_vi]; exact h3, h4⟩
end Go.Proofs.YtjahiohlekdhoaaDoor

namespace Go.Proofs.YtjahiohlekdhoaaDoor
open Go
set_option maxHeartbeats 4000000
set_option maxRecDepth 4000
attribute [local irreducible] SW SL SP RA Then FQ IQ LoopQ RQ AQ NX CutQ Exit.noGoto

theorem c_copiedP (G : Res) (d : DiskV) (hd : d.ok) : Ctr Tryd.prog G 124 [d.pages.v] [] [d.rp] (fun v B' Φ' => one v ∧ B' = [.row v d.pages.xs.length (pgsV d.pages.xs) 37 256] ∧ Φ' = []) := by
  have hl := pgsV_len hd.f
  have hn : d.pages.xs.length ≤ 64 := hd.f.n1
  refine Ctr.intro Tryd.func124 (by kernel_rfl) rfl Tryd.ntmps124 rfl rfl rfl fun w' X => ?_
  refine sw_seq ?_
  refine sw_region ?_
  refine r_assign (k := ?_)
  refine sl_nil ?_
  refine sp_then ?_
  refine sw_seq ?_
  refine sw_region ?_
  refine r_lit (vs := []) (xs := []) (cells := []) (by exact tl rfl) (by exact z37) rfl rfl (by simp) (by simp) (by simp) (by exact rfl) (by exact rfl) (by exact rfl) fun b => ?_
  refine r_move (k := ?_)
  refine r_append (n := 0) (xs := []) (mm := d.pages.xs.length) (news := pgsV d.pages.xs) (by exact tl rfl) (by exact z37) (by kernel_rfl) rfl (by exact rfl) (by exact rfl) (by iterate 24 (first | exact .head _ | apply List.Mem.tail | skip)) hl (pgsV_one _) (by omega) (by omega) (by exact rfl) fun v h1 h2 => ?_
  refine r_assign (k := ?_)
  refine sl_nil ?_
  refine sp_then ?_
  refine sw_ret ?_
  refine sp_retv rfl rfl (.tmp rfl) rfl rfl ⟨⟨h1, h2⟩, by rw [Nat.zero_add]; rfl, rfl⟩ (List.Sublist.refl _) rfl (by simp)

theorem c_copiedC (G : Res) (d : DiskV) (hd : d.ok) : Ctr Tryd.prog G 125 [d.cache.v] [] [d.rc] (fun v B' Φ' => one v ∧ B' = [.row v d.cache.xs.length (wrsV d.cache.xs) 147 257] ∧ Φ' = []) := by
  have hl := wrsV_len hd.f
  have hn : d.cache.xs.length ≤ 1000 := hd.f.c
  refine Ctr.intro Tryd.func125 (by kernel_rfl) rfl Tryd.ntmps125 rfl rfl rfl fun w' X => ?_
  refine sw_seq ?_
  refine sw_region ?_
  refine r_assign (k := ?_)
  refine sl_nil ?_
  refine sp_then ?_
  refine sw_seq ?_
  refine sw_region ?_
  refine r_lit (vs := []) (xs := []) (cells := []) (by exact tl rfl) (by exact z147) rfl rfl (by simp) (by simp) (by simp) (by exact rfl) (by exact rfl) (by exact rfl) fun b => ?_
  refine r_move (k := ?_)
  refine r_append (n := 0) (xs := []) (mm := d.cache.xs.length) (news := wrsV d.cache.xs) (by exact tl rfl) (by exact z147) (by kernel_rfl) rfl (by exact rfl) (by exact rfl) (by iterate 24 (first | exact .head _ | apply List.Mem.tail | skip)) hl (wrsV_one _) (by omega) (by omega) (by exact rfl) fun v h1 h2 => ?_
  refine r_assign (k := ?_)
  refine sl_nil ?_
  refine sp_then ?_
  refine sw_ret ?_
  refine sp_retv rfl rfl (.tmp rfl) rfl rfl ⟨⟨h1, h2⟩, by rw [Nat.zero_add]; rfl, rfl⟩ (List.Sublist.refl _) rfl (by simp)

theorem c_copiedB (G : Res) (d : DiskV) (hd : d.ok) : Ctr Tryd.prog G 126 [d.bad.v] [] [d.rb] (fun v B' Φ' => one v ∧ B' = [.row v d.bad.xs.length (isV d.bad.xs) 3 1] ∧ Φ' = []) := by
  have hl := isV_len d.bad.xs
  have hn : d.bad.xs.length ≤ 1 := bad_len hd.f
  refine Ctr.intro Tryd.func126 (by kernel_rfl) rfl Tryd.ntmps126 rfl rfl rfl fun w' X => ?_
  refine sw_seq ?_
  refine sw_region ?_
  refine r_assign (k := ?_)
  refine sl_nil ?_
  refine sp_then ?_
  refine sw_seq ?_
  refine sw_region ?_
  refine r_lit (vs := []) (xs := []) (cells := []) (by exact tl rfl) (by exact z3) rfl rfl (by simp) (by simp) (by simp) (by exact rfl) (by exact rfl) (by exact rfl) fun b => ?_
  refine r_move (k := ?_)
  refine r_append (n := 0) (xs := []) (mm := d.bad.xs.length) (news := isV d.bad.xs) (by exact tl rfl) (by exact z3) (by kernel_rfl) rfl (by exact rfl) (by exact rfl) (by iterate 24 (first | exact .head _ | apply List.Mem.tail | skip)) (by rw [hl, Nat.mul_one]) (isV_one _) (by omega) (by omega) (by exact rfl) fun v h1 h2 => ?_
  refine r_assign (k := ?_)
  refine sl_nil ?_
  refine sp_then ?_
  refine sw_ret ?_
  refine sp_retv rfl rfl (.tmp rfl) rfl rfl ⟨⟨h1, h2⟩, by rw [Nat.zero_add]; rfl, rfl⟩ (List.Sublist.refl _) rfl (by simp)


section
variable {c : Ctx} {ρ : List (Nat × Value)} {B Φ' : List Own} {Φ Φp : List Res} {Ψ : List JR} {ops : Array Oper} {rest : List Oper} {Q : Post} {r ty n e sz : Nat} {ps : String} {af : Array Edge} {xs : List Value}
/-- A call that tells a row of one's own. -/
theorem r_callRow {f : FuncId} {args cap : List Value} {l : List Operand} {vs : List Value} {at' : Array TypeId} {fo : Operand} (hc : Ctr c.P c.G f args [] Φp fun v B' Φ' => one v ∧ B' = [.row v n xs e sz] ∧ Φ' = []) (hf : ev ρ fo = some (.func (.func f) #[] cap.toArray) := by exact rfl) (hargs : evs ρ l = some vs := by exact rfl) (ha : args = vs ++ cap := by exact rfl)
    (hΦ : ∀ φ ∈ Φp, φ ∈ Φ := by simp) (hb : Nat.blt r c.nt = true := by exact rfl) (k : ∀ v, v.cells = #[v] → v.oneCell' = true → SL c ((r, v) :: ρ) (.row v n xs e sz :: B) Φ Ψ ops rest Q) : SL c ρ B Φ Ψ ops (⟨some r, .call ⟨.value fo, l.toArray, at'⟩, ty, ps, af, none⟩ :: rest) Q :=
  r_call (Bp := []) (Br := B) hc hf hargs ha hΦ hb (by rintro v _ _ ⟨h1, rfl, rfl⟩; exact k v h1.1 h1.2)
end

theorem c_vcopy (G : Res) (d : DiskV) (hd : d.ok) : Ctr Tryd.prog G 118 [d.v] [] [d.rp, d.rc, d.rb] (retDisk d.pure) := by
  refine Ctr.intro Tryd.func118 (by kernel_rfl) rfl Tryd.ntmps118 rfl rfl rfl fun w' X => ?_
  refine sw_seq ?_
  refine sw_region ?_
  refine r_box (cs := d.cs) (by exact rfl) rfl (by exact rfl) fun b1 => ?_
  refine r_alloc (by exact z60) (by exact rfl) (by exact rfl) fun b2 => ?_
  refine sl_nil ?_
  refine sp_then ?_
  refine sw_seq ?_
  
  refine sw_draw [(some 10, .box b1 d.cs 60)] [d.rp, d.rc, d.rb] [0, 1, 2, 3, 4, 5, 6, 7, 8, 9, 10, 11, 12, 13, 14] mix (by kernel_rfl) rfl ?_
  refine ra_first 0 [] [1, 2, 3, 4, 5, 6, 7, 8, 9, 10, 11, 12, 13, 14] (hq := by exact q_fieldAddr) (k := ?_)
  refine ra_first 1 [(some 10, .box b1 d.cs 60)] [2, 3, 4, 5, 6, 7, 8, 9, 10, 11, 12, 13, 14] (hq := by first | exact q_load_one | exact q_load_all | exact q_load_fr1 | exact q_load_fr) (k := ?_)
  refine ra_first 3 [] [2, 4, 5, 6, 7, 8, 9, 10, 11, 12, 13, 14] (hq := by exact q_fieldAddr) (k := ?_)
  refine ra_first 4 [(some 10, .box b1 d.cs 60)] [2, 5, 6, 7, 8, 9, 10, 11, 12, 13, 14] (hq := by first | exact q_load_one | exact q_load_all | exact q_load_fr1 | exact q_load_fr) (k := ?_)
  refine ra_first 6 [] [2, 5, 7, 8, 9, 10, 11, 12, 13, 14] (hq := by exact q_fieldAddr) (k := ?_)
  refine ra_first 7 [(some 10, .box b1 d.cs 60)] [2, 5, 8, 9, 10, 11, 12, 13, 14] (hq := by first | exact q_load_one | exact q_load_all | exact q_load_fr1 | exact q_load_fr) (k := ?_)
  refine ra1 (i := 2) [5, 8, 9, 10, 11, 12, 13, 14] (h := ?_)
  refine r_callRow (c_copiedP G d hd) (by exact rfl) (by exact rfl) (by exact rfl) (PhAll.all (by repeat' (first | trivial | exact .head _ | apply And.intro | apply List.Mem.tail))) (by exact rfl) fun v1 h1 g1 => ?_
  refine sl_nil ?_
  refine sp_nx (k := ?_)
  refine ra_first 9 [] [5, 8, 10, 11, 12, 13, 14] (hq := by exact q_fieldAddr) (k := ?_)
  refine ra1 (i := 5) [8, 10, 11, 12, 13, 14] (h := ?_)
  refine r_callRow (c_copiedC G d hd) (by exact rfl) (by exact rfl) (by exact rfl) (PhAll.all (by repeat' (first | trivial | exact .head _ | apply And.intro | apply List.Mem.tail))) (by exact rfl) fun v2 h2 g2 => ?_
  refine sl_nil ?_
  refine sp_nx (k := ?_)
  refine ra1 (i := 8) [10, 11, 12, 13, 14] (h := ?_)
  refine r_callRow (c_copiedB G d hd) (by exact rfl) (by exact rfl) (by exact rfl) (PhAll.all (by repeat' (first | trivial | exact .head _ | apply And.intro | apply List.Mem.tail))) (by exact rfl) fun v3 h3 g3 => ?_
  refine sl_nil ?_
  refine sp_nx (k := ?_)
  refine ra1 (i := 10) [11, 12, 13, 14] (h := ?_)
  refine r_store1 (k := ?_)
  refine sl_nil ?_
  refine sp_nx (k := ?_)
  refine ra1 (i := 11) [12, 13, 14] (h := ?_)
  refine r_fieldAddr (k := ?_)
  refine sl_nil ?_
  refine sp_nx (k := ?_)
  refine ra1 (i := 12) [13, 14] (h := ?_)
  refine r_store1 (k := ?_)
  refine sl_nil ?_
  refine sp_nx (k := ?_)
  refine ra1 (i := 13) [14] (h := ?_)
  refine r_fieldAddr (k := ?_)
  refine sl_nil ?_
  refine sp_nx (k := ?_)
  refine ra1 (i := 14) [] (h := ?_)
  refine r_store1 (k := ?_)
  refine sl_nil ?_
  refine sp_nx (k := ?_)
  refine ra_done ?_
  refine sp_then ?_
  refine sw_seq ?_
  refine sw_region ?_
  refine r_load_all (k := ?_)
  refine r_store_all (cs := [.slice none 0 0, .slice none 0 0, .slice none 0 0, vb false]) (vs := [v1, v2, v3, vb d.off]) (by exact tz rfl) (by exact rfl) (by exact rfl) (by iterate 24 (first | exact .hd | apply Upd.tl | skip)) rfl rfl (by rw [List.all_cons, g1, List.all_cons, g2, List.all_cons, g3]; rfl) rfl ?_
  refine sl_nil ?_
  refine sp_then ?_
  refine sw_ret ?_
  refine sp_pull 1 rfl ?_
  refine sp_pull 2 rfl ?_
  refine sp_retv rfl rfl (.agg rfl (tz rfl) rfl (.tail _ (.tail _ (.tail _ (.head _))))) rfl rfl ⟨v1, v2, v3, ⟨h1, g1⟩, ⟨h2, g2⟩, ⟨h3, g3⟩, rfl, rfl, rfl⟩ (.cons_cons _ (.cons_cons _ (.cons_cons _ (List.nil_sublist _)))) rfl (by simp)
end Go.Proofs.YtjahiohlekdhoaaDoor

namespace Go.Proofs.YtjahiohlekdhoaaDoor
open Go
set_option maxHeartbeats 4000000
set_option maxRecDepth 4000
attribute [local irreducible] SW SL SP RA Then FQ IQ LoopQ RQ AQ NX CutQ Exit.noGoto

theorem wrsV_oneC (x : WrV) : x.cs.all Value.oneCell' = true := by
  show (vi x.at' :: bv x.data).all _ = true
  rw [List.all_cons, bv_one]; rfl
def zeroW : List Value := vi 0 :: List.replicate 256 (Value.int .u8 0)
theorem c_vmay (G : Res) (d : DiskV) (hd : d.ok) (ho : d.off = false) : Ctr Tryd.prog G 123 [d.v] [] [d.rp, d.rc, d.rb] (ret1 (vb true)) := by
  have hn0 : 32 ≤ d.pages.xs.length := hd.f.n0
  have hn1 : d.pages.xs.length ≤ 64 := hd.f.n1
  have hc : d.cache.xs.length ≤ 1000 := hd.f.c
  have hbl : d.bad.xs.length ≤ 1 := bad_len hd.f
  have hwl : (wrsV d.cache.xs).length = d.cache.xs.length * 257 := wrsV_len hd.f
  have hil := isV_len d.bad.xs
  refine Ctr.intro Tryd.func123 (by kernel_rfl) rfl Tryd.ntmps123 rfl rfl rfl fun w' X => ?_
  refine sw_seq ?_
  refine sw_region ?_
  refine r_box (cs := d.cs) (by exact rfl) rfl (by exact rfl) fun b1 => ?_
  refine r_assign (k := ?_)
  refine sl_nil ?_
  refine sp_then ?_
  refine sw_scope ?_
  refine sw_seq ?_
  refine sw_region ?_
  refine r_fieldAddr (k := ?_)
  refine r_load_one (k := ?_)
  refine r_len (k := ?_)
  refine r_assign (k := ?_)
  refine sl_nil ?_
  refine sp_then ?_
  refine sw_seq ?_
  refine sw_region ?_
  refine r_move (k := ?_)
  refine r_geq (k := ?_)
  refine r_move (k := ?_)
  refine r_re (t := 14) (v' := vb true) rfl (by simp; omega) ?_
  refine gd_yes (k := ?_)
  refine r_move (k := ?_)
  refine gd_yes (k := ?_)
  refine r_leq (k := ?_)
  refine rd_pick_t (k := ?_)
  refine r_move (k := ?_)
  refine r_re (t := 18) (v' := vb true) rfl (by simp; omega) ?_
  refine gd_yes (k := ?_)
  refine r_fieldAddr (k := ?_)
  refine gd_yes (k := ?_)
  refine r_load_one (k := ?_)
  refine gd_yes (k := ?_)
  refine r_len (k := ?_)
  refine gd_yes (k := ?_)
  refine r_leq (k := ?_)
  refine rd_pick_t (k := ?_)
  refine r_move (k := ?_)
  refine r_re (t := 24) (v' := vb true) rfl (by simp; omega) ?_
  refine gd_yes (k := ?_)
  refine r_fieldAddr (k := ?_)
  refine gd_yes (k := ?_)
  refine r_load_one (k := ?_)
  refine gd_yes (k := ?_)
  refine r_move (k := ?_)
  refine r_re (t := 27) (v' := vb false) rfl (by rw [ho]) ?_
  refine gd_no (k := ?_)
  refine gd_no (k := ?_)
  refine gd_no (k := ?_)
  refine gd_no (k := ?_)
  refine gd_yes (k := ?_)
  refine rd_pick_f (k := ?_)
  refine gd_yes (k := ?_)
  refine r_not (k := ?_)
  refine rd_pick_t (k := ?_)
  refine r_assign (k := ?_)
  refine sl_nil ?_
  refine sp_then ?_
  refine sw_seq ?_
  refine sw_label ?_
  refine sp_then ?_
  refine sw_seq ?_
  refine sw_seq ?_
  refine sw_region ?_
  refine r_fieldAddr (k := ?_)
  refine r_load_one (k := ?_)
  refine r_len (k := ?_)
  refine r_move (k := ?_)
  refine sl_nil ?_
  refine sp_then ?_
  refine sw_block ?_
  refine sw_loop (ι := { i : Nat // i ≤ d.cache.xs.length }) (fun i => [(1, .pointer (some ⟨b1, 0, none⟩)), (2, vb true), (3, vi (d.pages.xs.length : Int)), (36, d.cache.v), (37, vi (d.cache.xs.length : Int)), (38, vi (i.1 : Int))]) (fun _ => [.box b1 d.cs 60]) (fun _ => [d.rp, d.rc, d.rb]) (fun _ => []) (fun i => d.cache.xs.length - i.1) ⟨0, by omega⟩ ?_ fun i => ?_
  · exact Ent.mk' (by repeat' (first | trivial | exact rfl | apply And.intro)) (by repeat' (first | trivial | exact .head _ | apply And.intro | apply List.Mem.tail))
  obtain ⟨i, hi⟩ := i
  dsimp only
  refine sw_seq ?_
  refine sw_region ?_
  refine r_lss (k := ?_)
  refine sl_nil ?_
  refine sp_then ?_
  refine sw_seq ?_
  refine sw_cond rfl (fun h => ?_) (fun h => ?_)
  · have h := of_decide_eq_true h
    have hi' : i < d.cache.xs.length := by omega
    have hca : 0 ≤ d.cache.xs[i].at' ∧ d.cache.xs[i].at' < (d.pages.xs.length : Int) := hd.f.ca d.cache.xs[i] (List.getElem_mem hi')
    refine sw_skip ?_
    refine sp_then ?_
    refine sw_seq ?_
    refine sw_block ?_
    refine sw_seq ?_
    refine sw_region ?_
    refine r_idx (cs := wrsV d.cache.xs) (by exact tl rfl) (by exact rfl) (by exact rfl) (by omega) (by omega) (by iterate 24 (first | exact .head _ | apply List.Mem.tail | skip)) (by rw [hwl]; exact Nat.le_refl _) (by exact rfl) (by exact Int.toNat_natCast _) (by exact rfl) ?_
    refine r_load_mem (vs := d.cache.xs[i].cs) (by exact tz rfl) (by exact rfl) (by iterate 24 (first | exact .head _ | apply List.Mem.tail | skip)) (fm_at _ i (wrsV_h hd.f) hi') rfl (wrsV_h hd.f _ (List.getElem_mem hi')) (by exact rfl) ?_
    refine r_alloc (by exact z147) (cs := zeroW) (by kernel_rfl) (by exact rfl) fun b5 => ?_
    refine r_store_all (cs := zeroW) (vs := d.cache.xs[i].cs) (by exact tz rfl) (by exact rfl) (by exact rfl) (by iterate 24 (first | exact .hd | apply Upd.tl | skip)) rfl (wrsV_h hd.f _ (List.getElem_mem hi')) (wrsV_oneC _) rfl ?_
    refine sl_nil ?_
    refine sp_then ?_
    refine sw_seq ?_
    refine sw_region ?_
    refine r_move (k := ?_)
    refine r_move (k := ?_)
    refine gd_yes (k := ?_)
    refine r_fieldAddr (k := ?_)
    refine gd_yes (k := ?_)
    refine r_load_one (k := ?_)
    refine gd_yes (k := ?_)
    refine r_geq (k := ?_)
    refine rd_pick_t (k := ?_)
    refine r_move (k := ?_)
    refine r_re (t := 48) (v' := vb true) rfl (by rw [decide_eq_true hca.1]) ?_
    refine gd_yes (k := ?_)
    refine r_fieldAddr (k := ?_)
    refine gd_yes (k := ?_)
    refine r_load_one (k := ?_)
    refine gd_yes (k := ?_)
    refine r_move (k := ?_)
    refine gd_yes (k := ?_)
    refine r_lss (k := ?_)
    refine rd_pick_t (k := ?_)
    refine r_assign (k := ?_)
    refine sl_nil ?_
    refine sp_then ?_
    refine sw_seq ?_
    refine sw_region ?_
    refine r_move (k := ?_)
    refine r_not (k := ?_)
    refine sl_nil ?_
    refine sp_then ?_
    refine w_re (t := 2) (v' := vb true) rfl (by rw [decide_eq_true hca.2]) ?_
    refine w_re (t := 55) (v' := vb false) rfl (by rw [decide_eq_true hca.2]; rfl) ?_
    refine swd_f (h := ?_)
    refine sw_skip ?_
    refine sp_block ?_
    refine sp_then ?_
    refine sw_region ?_
    refine r_add64 (k := ?_)
    refine r_move (k := ?_)
    refine sl_nil ?_
    refine sp_drop rfl ?_
    refine sp_loop (ι := { i : Nat // i ≤ d.cache.xs.length }) ⟨i + 1, by omega⟩ ?_ ?_
    · dsimp only; omega
    · exact Ent.mk' (by repeat' (first | trivial | exact rfl | apply And.intro)) (by repeat' (first | trivial | exact .head _ | apply And.intro | apply List.Mem.tail))
  refine sw_exit ?_
  refine sp_then_exit ?_
  refine sp_loop_exit ?_
  refine sp_block_exit ?_
  refine sp_then ?_
  refine sw_seq ?_
  refine sw_region ?_
  refine r_assign (k := ?_)
  refine sl_nil ?_
  refine sp_then ?_
  refine sw_seq ?_
  refine sw_seq ?_
  refine sw_region ?_
  refine r_fieldAddr (k := ?_)
  refine r_load_one (k := ?_)
  refine r_len (k := ?_)
  refine r_move (k := ?_)
  refine sl_nil ?_
  refine sp_then ?_
  refine sw_block ?_
  refine sw_loop (ι := { p : Nat × Int // p.1 ≤ d.bad.xs.length ∧ (p.1 = 0 → p.2 = -1) }) (fun p => [(2, vb true), (3, vi (d.pages.xs.length : Int)), (6, vi p.1.2), (58, d.bad.v), (59, vi (d.bad.xs.length : Int)), (60, vi (p.1.1 : Int))]) (fun _ => [.box b1 d.cs 60]) (fun _ => [d.rb]) (fun _ => []) (fun p => d.bad.xs.length - p.1.1) ⟨(0, -1), by dsimp only; omega, fun _ => rfl⟩ ?_ fun p => ?_
  · exact Ent.mk' (by repeat' (first | trivial | exact rfl | apply And.intro)) (by repeat' (first | trivial | exact .head _ | apply And.intro | apply List.Mem.tail))
  obtain ⟨⟨i, bf⟩, hi, hb⟩ := p
  dsimp only at hi hb ⊢
  refine sw_seq ?_
  refine sw_region ?_
  refine r_lss (k := ?_)
  refine sl_nil ?_
  refine sp_then ?_
  refine sw_seq ?_
  refine sw_cond rfl (fun h => ?_) (fun h => ?_)
  · have h := of_decide_eq_true h
    have hi' : i < d.bad.xs.length := by omega
    obtain rfl : i = 0 := by omega
    obtain ⟨k, hk, hk0, hk1⟩ : ∃ k : Int, d.bad.xs = [k] ∧ 0 ≤ k ∧ k < (d.pages.xs.length : Int) := by
      rcases hd.f.bd with e | e
      · rw [show d.bad.xs = [] from e] at hi'; exact absurd hi' (by simp)
      · exact e
    have hbf := hb rfl
    refine sw_skip ?_
    refine sp_then ?_
    refine sw_seq ?_
    refine sw_block ?_
    refine sw_seq ?_
    refine sw_region ?_
    refine r_idx (k := ?_)
    refine r_load_mem1 (v := vi k) (cs := isV d.bad.xs) (by exact tz rfl) (by exact rfl) (by iterate 24 (first | exact .head _ | apply List.Mem.tail | skip)) (by rw [hk]; rfl) (by exact rfl) ?_
    refine r_assign (k := ?_)
    refine sl_nil ?_
    refine sp_then ?_
    refine sw_seq ?_
    refine sw_region ?_
    refine r_move (k := ?_)
    refine r_move (k := ?_)
    refine gd_yes (k := ?_)
    refine r_move (k := ?_)
    refine gd_yes (k := ?_)
    refine r_move (k := ?_)
    refine gd_yes (k := ?_)
    refine r_gtr (k := ?_)
    refine rd_pick_t (k := ?_)
    refine r_move (k := ?_)
    refine r_re (t := 70) (v' := vb true) rfl (by rw [decide_eq_true (show bf < k by omega)]) ?_
    refine gd_yes (k := ?_)
    refine r_move (k := ?_)
    refine gd_yes (k := ?_)
    refine r_move (k := ?_)
    refine gd_yes (k := ?_)
    refine r_lss (k := ?_)
    refine rd_pick_t (k := ?_)
    refine r_assign (k := ?_)
    refine sl_nil ?_
    refine sp_then ?_
    refine sw_region ?_
    refine r_move (k := ?_)
    refine r_assign (k := ?_)
    refine sl_nil ?_
    refine sp_block ?_
    refine sp_then ?_
    refine sw_region ?_
    refine r_add64 (k := ?_)
    refine r_move (k := ?_)
    refine sl_nil ?_
    refine sp_re (t := 2) (v' := vb true) rfl (by rw [decide_eq_true hk1]) ?_
    refine sp_loop (ι := { p : Nat × Int // p.1 ≤ d.bad.xs.length ∧ (p.1 = 0 → p.2 = -1) }) ⟨(1, k), by dsimp only; omega, fun h => by simp at h⟩ ?_ ?_
    · dsimp only; omega
    · exact Ent.mk' (by repeat' (first | trivial | exact rfl | apply And.intro)) (by repeat' (first | trivial | exact .head _ | apply And.intro | apply List.Mem.tail))
  refine sw_exit ?_
  refine sp_then_exit ?_
  refine sp_loop_exit ?_
  refine sp_block_exit ?_
  refine sp_then ?_
  refine sw_seq ?_
  refine sw_region ?_
  refine r_move (k := ?_)
  refine r_assign (k := ?_)
  refine sl_nil ?_
  refine sp_then ?_
  refine sw_ret ?_
  refine sp_ng_ret ?_
  refine sp_retv rfl rfl (.tmp rfl) rfl rfl ⟨rfl, rfl, rfl⟩ (by simp) rfl (by simp)
end Go.Proofs.YtjahiohlekdhoaaDoor

namespace Go.Proofs.YtjahiohlekdhoaaDoor
open Go
set_option maxHeartbeats 4000000
set_option maxRecDepth 4000
attribute [local irreducible] SW SL SP RA Then FQ IQ LoopQ RQ AQ NX CutQ Exit.noGoto

theorem c_vasked (G : Res) (d : DiskV) (hd : d.ok) (ho : d.off = false) (n : Int) (h0 : 0 ≤ n) (h1 : n < d.pages.xs.length) : Ctr Tryd.prog G 117 [d.v, vi n] [] [d.rp, d.rc, d.rb] (ret1 (vi 0)) := by
  refine Ctr.intro Tryd.func117 (by kernel_rfl) rfl Tryd.ntmps117 rfl rfl rfl fun w' X => ?_
  refine sw_seq ?_
  refine sw_region ?_
  refine r_box (cs := d.cs) (by exact rfl) rfl (by exact rfl) fun b1 => ?_
  refine r_assign (k := ?_)
  refine sl_nil ?_
  refine sp_then ?_
  refine sw_seq ?_
  refine sw_block ?_
  refine sw_seq ?_
  refine sw_region ?_
  refine r_load_all (k := ?_)
  refine r_call1 (c_vmay G d hd ho) (by exact rfl) (by exact rfl) (by exact rfl) (PhAll.all (by repeat' (first | trivial | exact .head _ | apply And.intro | apply List.Mem.tail))) (by exact rfl) ?_
  refine r_not (k := ?_)
  refine r_move (k := ?_)
  refine gd_yes (k := ?_)
  refine r_move (k := ?_)
  refine gd_yes (k := ?_)
  refine r_lss (k := ?_)
  refine rd_pick_f (k := ?_)
  refine r_move (k := ?_)
  refine r_re (t := 13) (v' := vb false) rfl (by rw [decide_eq_false (show ¬ n < 0 by omega)]) ?_
  refine gd_yes (k := ?_)
  refine r_move (k := ?_)
  refine gd_yes (k := ?_)
  refine r_fieldAddr (k := ?_)
  refine gd_yes (k := ?_)
  refine r_load_one (k := ?_)
  refine gd_yes (k := ?_)
  refine r_len (k := ?_)
  refine gd_yes (k := ?_)
  refine r_geq (k := ?_)
  refine rd_pick_f (k := ?_)
  refine r_assign (k := ?_)
  refine sl_nil ?_
  refine sp_then ?_
  refine w_re (t := 5) (v' := vb false) rfl (by rw [decide_eq_false (show ¬ ((d.pages.xs.length : Int) ≤ n) by omega)]) ?_
  refine swd_f (h := ?_)
  refine sw_seq ?_
  refine sw_region ?_
  refine r_fieldAddr (k := ?_)
  refine r_load_one (k := ?_)
  refine r_assign (k := ?_)
  refine sl_nil ?_
  refine sp_then ?_
  refine w_re (t := 20) (v' := vb false) rfl (by rw [ho]) ?_
  refine swd_f (h := ?_)
  refine sw_skip ?_
  refine sp_block ?_
  refine sp_then ?_
  refine sw_seq ?_
  refine sw_region ?_
  refine r_assign (k := ?_)
  refine sl_nil ?_
  refine sp_then ?_
  refine sw_ret ?_
  refine sp_retv rfl rfl (.tmp rfl) rfl rfl ⟨rfl, rfl, rfl⟩ (by simp) rfl (by simp)

theorem built_wr (n : Int) (p : List UInt8) (hp : p.length = 256) : Tryd.prog.built 147 [(0, vi n), (1, .agg (bv p).toArray)] = some (WrV.cs ⟨n, p⟩).toArray := by
  have h : ∀ ps, Tryd.prog.built 147 ps = Instr.fill (#[(0, 1), (1, 256)][·]?) zeroW.toArray ps := fun ps => by kernel_rfl
  have hl : (bv p).length = 256 := by rw [bv_len, hp]
  rw [h, fill_cons (off := 0) (sz := 1) (vs := [vi n]) rfl rfl rfl (by simp [zeroW]), fill_cons (off := 1) (sz := 256) (vs := bv p) rfl rfl hl (by simp [splice, zeroW]), Instr.fill]
  simp [splice, zeroW, WrV.cs, hl]

def DiskP.write (d : DiskP) (n : Int) (p : List UInt8) : DiskP := { d with cache := d.cache ++ [⟨n, p⟩] }
theorem write_fine {d : DiskP} {n : Int} {p : List UInt8} (h : d.fine) (ho : d.off = false) (hc : d.cache.length < 1000) (h0 : 0 ≤ n) (h1 : n < d.pages.length) (hp : p.length = 256) : (d.write n p).fine := by
  refine ⟨h.n0, h.n1, ?_, h.pg, fun x hx => ?_, fun x hx => ?_, h.bd, fun e => ?_⟩
  · simp [DiskP.write]; omega
  · rcases List.mem_append.1 hx with hx | hx
    · exact h.cd x hx
    · rw [List.mem_singleton] at hx; subst hx; exact hp
  · rcases List.mem_append.1 hx with hx | hx
    · exact h.ca x hx
    · rw [List.mem_singleton] at hx; subst hx; exact ⟨h0, h1⟩
  · rw [show (d.write n p).off = d.off from rfl, ho] at e; cases e
theorem c_vwrite (G : Res) (d : DiskV) (hd : d.ok) (ho : d.off = false) (n : Int) (p : List UInt8) (h0 : 0 ≤ n) (hlt : n < d.pages.xs.length) (hp : p.length = 256) (hc : d.cache.xs.length < 1000) : Ctr Tryd.prog G 103 [d.v, vi n, .agg (bv p).toArray] [] [d.rp, d.rc, d.rb]
    (retF fun v Φ' => ∃ x : DiskV, v = .tuple #[x.v, vi 0] ∧ x.ok ∧ x.pure = d.pure.write n p ∧ Φ' = [x.rb, x.rc, x.rp]) := by
  have hl : (bv p).length = 256 := by rw [bv_len, hp]
  refine Ctr.intro Tryd.func103 (by kernel_rfl) rfl Tryd.ntmps103 rfl rfl rfl fun w' X => ?_
  refine sw_seq ?_
  refine sw_region ?_
  refine r_box (cs := d.cs) (by exact rfl) rfl (by exact rfl) fun b3 => ?_
  refine r_box (cs := bv p) (by exact rfl) rfl (by exact rfl) fun b5 => ?_
  refine r_alloc (by exact z60) (by exact rfl) (by exact rfl) fun b6 => ?_
  refine r_assign (k := ?_)
  refine sl_nil ?_
  refine sp_then ?_
  refine sw_seq ?_
  refine sw_region ?_
  refine r_load_all (k := ?_)
  refine r_move (k := ?_)
  refine r_call1 (c_vasked G d hd ho n h0 hlt) (by exact rfl) (by exact rfl) (by exact rfl) (PhAll.all (by repeat' (first | trivial | exact .head _ | apply And.intro | apply List.Mem.tail))) (by exact rfl) ?_
  refine r_assign (k := ?_)
  refine sl_nil ?_
  refine sp_then ?_
  refine sw_seq ?_
  refine sw_seq ?_
  refine sw_region ?_
  refine r_move (k := ?_)
  refine r_eql (k := ?_)
  refine r_move (k := ?_)
  refine r_re (t := 14) (v' := vb true) rfl rfl ?_
  refine gd_yes (k := ?_)
  refine r_fieldAddr (k := ?_)
  refine gd_yes (k := ?_)
  refine r_load_one (k := ?_)
  refine gd_yes (k := ?_)
  refine r_len (k := ?_)
  refine gd_yes (k := ?_)
  refine r_geq (k := ?_)
  refine rd_pick_t (k := ?_)
  refine sl_nil ?_
  refine sp_then ?_
  refine w_re (t := 19) (v' := vb false) rfl (by rw [decide_eq_false (show ¬ ((2000 : Int) ≤ (d.cache.xs.length : Int)) by omega)]) ?_
  refine swd_f (h := ?_)
  refine sw_skip ?_
  refine sp_then ?_
  refine sw_seq ?_
  refine sw_region ?_
  refine r_load_all (k := ?_)
  refine r_call (Bp := []) (c_vcopy G d hd) (by exact rfl) (by exact rfl) (by exact rfl) (PhAll.all (by repeat' (first | trivial | exact .head _ | apply And.intro | apply List.Mem.tail))) (by exact rfl) ?_
  rintro _ _ _ ⟨v1, v2, v3, ⟨h1, g1⟩, ⟨h2, g2⟩, ⟨h3, g3⟩, rfl, rfl, rfl⟩
  refine r_store_all (cs := d.cs) (vs := [v1, v2, v3, vb d.off]) (by exact tz rfl) (by exact rfl) (by exact rfl) (by iterate 24 (first | exact .hd | apply Upd.tl | skip)) rfl rfl (by rw [List.all_cons, g1, List.all_cons, g2, List.all_cons, g3]; rfl) rfl ?_
  refine sl_nil ?_
  refine sp_then ?_
  refine sw_seq ?_
  refine sw_seq ?_
  refine sw_region ?_
  refine r_move (k := ?_)
  refine r_eql (k := ?_)
  refine sl_nil ?_
  refine sp_then ?_
  refine w_re (t := 23) (v' := vb true) rfl rfl ?_
  refine swd_t (h := ?_)
  refine sw_region ?_
  refine r_fieldAddr (k := ?_)
  refine r_load_one (k := ?_)
  refine r_move (k := ?_)
  refine r_load_all (cs := bv p) (by exact tz rfl) (by exact rfl) (by iterate 24 (first | exact .head _ | apply List.Mem.tail | skip)) hl (by exact rfl) ?_
  refine r_buildP (WrV.cs ⟨n, p⟩) (parts := [(0, .tmp 26), (1, .tmp 27)]) (by exact rfl) (built_wr n p hp) (by exact rfl) ?_
  refine r_lit (vs := [.agg (WrV.cs ⟨n, p⟩).toArray]) (xs := [.tmp 28]) (cells := wrsV [⟨n, p⟩]) (by exact tl rfl) (by exact z147) rfl rfl (fun v hv => by rw [List.mem_singleton.1 hv]; simp [Value.cells, WrV.cs, hl]) (by simp) (by simp) (by exact rfl) (by simp [wrsV, Value.cells]) (by exact rfl) fun b => ?_
  refine o_row fun ba cap e1 _ _ _ => ?_
  cases e1
  refine o_pull 1 rfl ?_
  refine r_append (n := d.cache.xs.length) (xs := wrsV d.cache.xs) (mm := 1) (news := wrsV [⟨n, p⟩]) (by exact tl rfl) (by exact z147) (by kernel_rfl) rfl (by exact rfl) (by exact rfl) (by iterate 24 (first | exact .head _ | apply List.Mem.tail | skip)) (by simp [wrsV, WrV.cs, hl]) (wrsV_one _) (by omega) (by omega) (by exact rfl) fun v4 h4 g4 => ?_
  have e1 : wrsV d.cache.xs ++ wrsV [⟨n, p⟩] = wrsV (d.pure.write n p).cache := by simp [wrsV, DiskP.write, DiskV.pure]
  have e2 : d.cache.xs.length + 1 = (d.pure.write n p).cache.length := by simp [DiskP.write, DiskV.pure]
  rw [e1, e2]
  refine o_pull 1 rfl ?_
  refine o_disk (p := v1) (q := v4) (r := v3) (write_fine (n := n) (p := p) hd.f ho hc h0 hlt hp) fun x hx hxp p1 p2 p3 => ?_
  subst p1 p2 p3
  have hxo : x.off = d.off := congrArg DiskP.off hxp
  refine r_fieldAddr (k := ?_)
  refine r_store1 (k := ?_)
  refine sl_nil ?_
  refine sp_then ?_
  refine sw_seq ?_
  refine sw_region ?_
  refine r_load_all (k := ?_)
  refine r_move (k := ?_)
  refine r_store_all (k := ?_)
  refine r_assign (k := ?_)
  refine sl_nil ?_
  refine sp_then ?_
  refine sw_ret ?_
  refine sp_ret2 rfl rfl (.agg rfl (tz rfl) rfl (.head _)) (.tmp rfl) rfl rfl ⟨rfl, x, by rw [DiskV.v, DiskV.cs, hxo]; rfl, hx, hxp, rfl⟩ (by simp) rfl (PhAll.all (by repeat' (first | trivial | exact .head _ | apply And.intro | apply List.Mem.tail)))
end Go.Proofs.YtjahiohlekdhoaaDoor

namespace Go.Proofs.YtjahiohlekdhoaaDoor
open Go
set_option maxHeartbeats 4000000
set_option maxRecDepth 4000
attribute [local irreducible] SW SL SP RA Then FQ IQ LoopQ RQ AQ NX CutQ Exit.noGoto

def wElt (x : WrV) (vs : List Value) : Res := Res.pure (x.data.length = 256 ∧ ∃ i : Int, vs = [vi i, x.v])
theorem c_backW (G : Res) (s : Sl WrV) : Ctr Tryd.prog G 129 [s.v] [] [] (retF fun v Φ' => ∃ b, v = .func (.func 131) #[] #[.pointer (some ⟨b, 0, none⟩)] ∧ Φ' = [Res.mem (some ⟨b, 0, none⟩) [s.v]]) := by
  obtain ⟨ba, cap, xs⟩ := s
  refine Ctr.intro Tryd.func129 (by kernel_rfl) rfl Tryd.ntmps129 rfl rfl rfl fun w X => ?_
  refine sw_seq ?_
  refine sw_region ?_
  refine r_box (k := fun bx => ?_)
  refine r_assign (k := ?_)
  refine sl_nil ?_
  refine sp_then ?_
  refine sw_seq ?_
  refine sw_region ?_
  refine r_clos (k := ?_)
  refine r_assign (k := ?_)
  refine sl_nil ?_
  refine sp_then ?_
  refine sw_ret ?_
  refine sp_freeze ?_
  refine sp_retv rfl rfl (.tmp rfl) rfl rfl ⟨rfl, _, rfl, rfl⟩ (by simp) rfl (by simp)

theorem take_rev {α : Type} (xs : List α) (k : Nat) (h : k < xs.length) : (xs.take (k + 1)).reverse = xs[k] :: (xs.take k).reverse := by
  rw [List.take_succ_eq_append_getElem h]; simp

theorem i_backW (G : Res) (b : Nat) (d : DiskV) (hd : d.ok) : ICtr Tryd.prog G 131 [.pointer (some ⟨b, 0, none⟩)] [] [Res.mem (some ⟨b, 0, none⟩) [d.cache.v], d.rc] wElt d.cache.xs.reverse := by
  have hn : d.cache.xs.length ≤ 1000 := hd.f.c
  have hwl : (wrsV d.cache.xs).length = d.cache.xs.length * 257 := wrsV_len hd.f
  refine ICtr.intro Tryd.func131 (by kernel_rfl) rfl Tryd.ntmps131 rfl rfl (fun _ => rfl) fun σ J Y go A l s0 w' X M hgo hA hY => ?_
  refine sw_seq ?_
  refine sw_region ?_
  refine r_load_fr1 (k := ?_)
  refine r_len (k := ?_)
  refine r_sub64 (k := ?_)
  refine r_assign (k := ?_)
  refine sl_nil ?_
  refine sp_then ?_
  refine sw_block ?_
  refine sw_loop (ι := { p : Nat × σ // p.1 ≤ d.cache.xs.length ∧ At Y go A s0 d.cache.xs.reverse p.2 (d.cache.xs.take p.1).reverse })
    (fun p => [(0, yv l), (1, .pointer (some ⟨b, 0, none⟩)), (3, vi ((p.1.1 : Int) - 1))]) (fun _ => []) (fun _ => [Res.mem (some ⟨b, 0, none⟩) [d.cache.v], d.rc]) (fun p => [J p.1.2]) (fun p => p.1.1) ⟨(d.cache.xs.length, s0), Nat.le_refl _, (At.start hgo hA).of (by simp)⟩ ?_ fun i => ?_
  · exact Ent.mk' (by repeat' (first | trivial | exact rfl | apply And.intro)) (by repeat' (first | trivial | exact .head _ | apply And.intro | apply List.Mem.tail))
  obtain ⟨⟨i, st⟩, hi, hr⟩ := i
  dsimp only at hi hr ⊢
  refine sw_seq ?_
  refine sw_seq ?_
  refine sw_region ?_
  refine r_move (k := ?_)
  refine r_geq (k := ?_)
  refine sl_nil ?_
  refine sp_then ?_
  refine sw_cond rfl (fun h => ?_) (fun h => ?_)
  · have h := of_decide_eq_true h
    obtain ⟨k, rfl⟩ : ∃ k, i = k + 1 := ⟨i - 1, by omega⟩
    have hk : k < d.cache.xs.length := by omega
    have ek : ((k + 1 : Nat) : Int) - 1 = (k : Int) := by omega
    have hr := hr.of (take_rev d.cache.xs k hk)
    simp only [ek]
    refine sw_skip ?_
    refine sp_then ?_
    refine sw_seq ?_
    refine sw_block ?_
    refine sw_seq ?_
    refine sw_region ?_
    refine r_move (k := ?_)
    refine r_move (k := ?_)
    refine r_load_fr1 (k := ?_)
    refine r_move (k := ?_)
    refine r_idx (cs := wrsV d.cache.xs) (by exact tl rfl) (by exact rfl) (by exact rfl) (by omega) (by omega) (by iterate 24 (first | exact .head _ | apply List.Mem.tail | skip)) (by rw [hwl]; exact Nat.le_refl _) (by exact rfl) (by exact Int.toNat_natCast _) (by exact rfl) ?_
    refine r_load_mem (vs := d.cache.xs[k].cs) (by exact tz rfl) (by exact rfl) (by iterate 24 (first | exact .head _ | apply List.Mem.tail | skip)) (fm_at _ k (wrsV_h hd.f) hk) rfl (wrsV_h hd.f _ (List.getElem_mem hk)) (by exact rfl) ?_
    refine r_yield hY hr.go' hr.give rfl rfl (el := d.cache.xs[k]) (fun _ _ _ => ⟨hd.f.cd _ (List.getElem_mem hk), _, rfl⟩) rfl ?_
    refine r_not (k := ?_)
    refine sl_nil ?_
    refine sp_then ?_
    cases hg : go (Y st d.cache.xs[k])
    · refine swd_t (h := ?_)
      refine sw_ret ?_
      refine sp_block_ret ?_
      refine sp_then_ret ?_
      refine sp_loop_ret ?_
      refine sp_block_ret ?_
      refine sp_iret rfl rfl rfl ⟨hr.stop hg, rfl, rfl⟩ (by simp) rfl (by simp) rfl
    · refine swd_f (h := ?_)
      refine sw_skip ?_
      refine sp_block ?_
      refine sp_then ?_
      refine sw_region ?_
      refine r_move (k := ?_)
      refine r_sub64 (k := ?_)
      refine r_assign (k := ?_)
      refine sl_nil ?_
      refine sp_loop (ι := { p : Nat × σ // p.1 ≤ d.cache.xs.length ∧ At Y go A s0 d.cache.xs.reverse p.2 (d.cache.xs.take p.1).reverse }) ⟨(k, Y st d.cache.xs[k]), by dsimp only; omega, hr.next hg⟩ ?_ ?_
      · dsimp only; omega
      · exact Ent.mk' (by repeat' (first | trivial | exact rfl | apply And.intro)) (by repeat' (first | trivial | exact .head _ | apply And.intro | apply List.Mem.tail))
  · have h := of_decide_eq_false h
    obtain rfl : i = 0 := by omega
    refine sw_exit ?_
    refine sp_then_exit ?_
    refine sp_loop_exit ?_
    refine sp_block_exit ?_
    refine sp_inorm rfl rfl rfl ⟨hr.done, rfl, rfl⟩ (by simp) rfl (by simp) rfl

/-- Of a row of at most one: whether n is in it. -/
def hasN (l : List Int) (n : Int) : Bool := l.any fun k => decide (n = k)
theorem c_index (G : Res) (d : DiskV) (hd : d.ok) (n : Int) : Ctr Tryd.prog G 130 [d.bad.v, vi n] [] [d.rb] (ret1 (vi (if hasN d.bad.xs n then 0 else -1))) := by
  have hbl : d.bad.xs.length ≤ 1 := bad_len hd.f
  have hil := isV_len d.bad.xs
  refine Ctr.intro Tryd.func130 (by kernel_rfl) rfl Tryd.ntmps130 rfl rfl rfl fun w X => ?_
  refine sw_seq ?_
  refine sw_region ?_
  refine r_assign (k := ?_)
  refine sl_nil ?_
  refine sp_then ?_
  refine sw_seq ?_
  refine sw_seq ?_
  refine sw_region ?_
  refine r_move (k := ?_)
  refine r_len (k := ?_)
  refine r_move (k := ?_)
  refine sl_nil ?_
  refine sp_then ?_
  refine sw_block ?_
  refine sw_loop (ι := { i : Nat // i ≤ d.bad.xs.length ∧ hasN (d.bad.xs.take i) n = false }) (fun i => [(0, d.bad.v), (1, vi n), (7, vi (d.bad.xs.length : Int)), (8, vi (i.1 : Int))]) (fun _ => []) (fun _ => [d.rb]) (fun _ => []) (fun i => d.bad.xs.length - i.1) ⟨0, by omega, rfl⟩ ?_ fun i => ?_
  · exact Ent.mk' (by repeat' (first | trivial | exact rfl | apply And.intro)) (by repeat' (first | trivial | exact .head _ | apply And.intro | apply List.Mem.tail))
  obtain ⟨i, hi, hno⟩ := i
  dsimp only
  refine sw_seq ?_
  refine sw_region ?_
  refine r_lss (k := ?_)
  refine sl_nil ?_
  refine sp_then ?_
  refine sw_seq ?_
  refine sw_cond rfl (fun h => ?_) (fun h => ?_)
  · have h := of_decide_eq_true h
    have hi' : i < d.bad.xs.length := by omega
    obtain rfl : i = 0 := by omega
    obtain ⟨k, hk⟩ : ∃ k : Int, d.bad.xs = [k] := by
      rcases hd.f.bd with e | ⟨k, e, _⟩
      · rw [show d.bad.xs = [] from e] at hi'; exact absurd hi' (by simp)
      · exact ⟨k, e⟩
    refine sw_skip ?_
    refine sp_then ?_
    refine sw_seq ?_
    refine sw_block ?_
    refine sw_seq ?_
    refine sw_region ?_
    refine r_move (k := ?_)
    refine r_assign (k := ?_)
    refine sl_nil ?_
    refine sp_then ?_
    refine sw_seq ?_
    refine sw_region ?_
    refine r_move (k := ?_)
    refine r_move (k := ?_)
    refine r_move (k := ?_)
    refine r_idx (k := ?_)
    refine r_load_mem1 (v := vi k) (cs := isV d.bad.xs) (by exact tz rfl) (by exact rfl) (by iterate 24 (first | exact .head _ | apply List.Mem.tail | skip)) (by rw [hk]; rfl) (by exact rfl) ?_
    refine r_eql (k := ?_)
    refine sl_nil ?_
    refine sp_then ?_
    refine sw_cond rfl (fun h => ?_) (fun h => ?_)
    · have h := of_decide_eq_true h
      refine sw_seq ?_
      refine sw_region ?_
      refine r_move (k := ?_)
      refine r_assign (k := ?_)
      refine sl_nil ?_
      refine sp_then ?_
      refine sw_ret ?_
      refine sp_block_ret ?_
      refine sp_then_ret ?_
      refine sp_loop_ret ?_
      refine sp_block_ret ?_
      refine sp_then_ret ?_
      refine sp_retv rfl rfl (.tmp rfl) rfl rfl ⟨by rw [hk, hasN, List.any_cons, decide_eq_true h]; rfl, rfl, rfl⟩ (by simp) rfl (by simp)
    · refine sw_skip ?_
      refine sp_block ?_
      refine sp_then ?_
      refine sw_region ?_
      refine r_add64 (k := ?_)
      refine r_move (k := ?_)
      refine sl_nil ?_
      refine sp_loop (ι := { i : Nat // i ≤ d.bad.xs.length ∧ hasN (d.bad.xs.take i) n = false }) ⟨1, by omega, by rw [hk, hasN]; simp [h]⟩ ?_ ?_
      · dsimp only; omega
      · exact Ent.mk' (by repeat' (first | trivial | exact rfl | apply And.intro)) (by repeat' (first | trivial | exact .head _ | apply And.intro | apply List.Mem.tail))
  · have h := of_decide_eq_false h
    obtain rfl : i = d.bad.xs.length := by omega
    rw [List.take_length] at hno
    refine sw_exit ?_
    refine sp_then_exit ?_
    refine sp_loop_exit ?_
    refine sp_block_exit ?_
    refine sp_then ?_
    refine sw_seq ?_
    refine sw_region ?_
    refine r_assign (k := ?_)
    refine sl_nil ?_
    refine sp_then ?_
    refine sw_ret ?_
    refine sp_retv rfl rfl (.tmp rfl) rfl rfl ⟨by rw [hno]; rfl, rfl, rfl⟩ (by simp) rfl (by simp)
theorem c_contains (G : Res) (d : DiskV) (hd : d.ok) (n : Int) : Ctr Tryd.prog G 122 [d.bad.v, vi n] [] [d.rb] (ret1 (vb (hasN d.bad.xs n))) := by
  refine Ctr.intro Tryd.func122 (by kernel_rfl) rfl Tryd.ntmps122 rfl rfl rfl fun w X => ?_
  refine sw_seq ?_
  refine sw_region ?_
  refine r_assign (k := ?_)
  refine sl_nil ?_
  refine sp_then ?_
  refine sw_seq ?_
  refine sw_region ?_
  refine r_move (k := ?_)
  refine r_move (k := ?_)
  refine r_call1 (c_index G d hd n) (by exact rfl) (by exact rfl) (by exact rfl) (PhAll.all (by repeat' (first | trivial | exact .head _ | apply And.intro | apply List.Mem.tail))) (by exact rfl) ?_
  refine r_geq (k := ?_)
  refine r_assign (k := ?_)
  refine sl_nil ?_
  refine sp_then ?_
  refine sw_ret ?_
  refine sp_retv rfl rfl (.tmp rfl) rfl rfl ⟨by cases hasN d.bad.xs n <;> rfl, rfl, rfl⟩ (by simp) rfl (by simp)
end Go.Proofs.YtjahiohlekdhoaaDoor
