/-
  The walks of the document's pack: bytes with their length, pages.
-/
import Derived.Test.YtjahiohlekdhoaaDoorRef2
import Derived.Test.YtjahiohlekdhoaaDoorEnc
namespace Go.Proofs.YtjahiohlekdhoaaDoor
open Go
set_option maxHeartbeats 4000000
set_option maxRecDepth 4000
attribute [local irreducible] SW SL SP RA Then FQ IQ LoopQ RQ AQ NX CutQ Exit.noGoto

theorem c_r2putBytes (G : Res) (b s : BS) (hs : s.ok) (hbl : b.xs.length ≤ 1099511620000) (hsl : s.xs.length ≤ 255) : Ctr Tryd.prog G 59 [b.v, s.v] [] [b.res, s.res] (retB (b.xs ++ UInt8.ofNat s.xs.length :: s.xs)) := by
  refine Ctr.intro Tryd.func59 (by kernel_rfl) rfl Tryd.ntmps59 rfl rfl rfl fun w' X => ?_
  refine sw_seq ?_
  refine sw_region ?_
  refine r_assign (k := ?_)
  refine sl_nil ?_
  refine sp_then ?_
  refine sw_seq ?_
  refine sw_region ?_
  refine r_move (k := ?_)
  refine r_move (k := ?_)
  refine r_len (k := ?_)
  refine r_min (k := ?_)
  refine r_re (t := 9) (v' := vi (s.xs.length : Int)) rfl (by rw [if_neg (by omega)]) ?_
  refine r_cutB (s := s) (l := 0) (h := s.xs.length) (by exact tl rfl) (by exact rfl) (by first | exact .head _ | exact .tail _ (.head _) | exact .tail _ (.tail _ (.head _)) | exact .tail _ (.tail _ (.tail _ (.head _))) | exact .tail _ (.tail _ (.tail _ (.tail _ (.head _)))) | exact .tail _ (.tail _ (.tail _ (.tail _ (.tail _ (.head _))))) | exact .tail _ (.tail _ (.tail _ (.tail _ (.tail _ (.tail _ (.head _)))))) | exact .tail _ (.tail _ (.tail _ (.tail _ (.tail _ (.tail _ (.tail _ (.head _))))))) | exact .tail _ (.tail _ (.tail _ (.tail _ (.tail _ (.tail _ (.tail _ (.tail _ (.head _)))))))) | exact .tail _ (.tail _ (.tail _ (.tail _ (.tail _ (.tail _ (.tail _ (.tail _ (.tail _ (.head _))))))))) | exact .tail _ (.tail _ (.tail _ (.tail _ (.tail _ (.tail _ (.tail _ (.tail _ (.tail _ (.tail _ (.head _)))))))))) | exact .tail _ (.tail _ (.tail _ (.tail _ (.tail _ (.tail _ (.tail _ (.tail _ (.tail _ (.tail _ (.tail _ (.head _)))))))))))) hs rfl ⟨_, rfl⟩ (by omega) (Nat.le_refl _) (by exact rfl) fun s' hs' hx' => ?_
  have hx' : s'.xs = s.xs := by rw [hx']; simp
  refine r_assign (k := ?_)
  refine sl_nil ?_
  refine sp_then ?_
  refine sw_seq ?_
  refine sw_region ?_
  refine r_litB (xs := []) (bs := []) (by exact tl rfl) (by exact z5) (by exact rfl) (by exact rfl) (by exact rfl) (by exact rfl) (by exact rfl) fun v _ _ => ?_
  refine r_move (k := ?_)
  refine r_appendB (xs := []) (s := b) (by exact tl rfl) (by exact z5) (by exact rfl) (by exact rfl) (by first | exact .head _ | exact .tail _ (.head _) | exact .tail _ (.tail _ (.head _)) | exact .tail _ (.tail _ (.tail _ (.head _))) | exact .tail _ (.tail _ (.tail _ (.tail _ (.head _)))) | exact .tail _ (.tail _ (.tail _ (.tail _ (.tail _ (.head _))))) | exact .tail _ (.tail _ (.tail _ (.tail _ (.tail _ (.tail _ (.head _)))))) | exact .tail _ (.tail _ (.tail _ (.tail _ (.tail _ (.tail _ (.tail _ (.head _))))))) | exact .tail _ (.tail _ (.tail _ (.tail _ (.tail _ (.tail _ (.tail _ (.tail _ (.head _)))))))) | exact .tail _ (.tail _ (.tail _ (.tail _ (.tail _ (.tail _ (.tail _ (.tail _ (.tail _ (.head _))))))))) | exact .tail _ (.tail _ (.tail _ (.tail _ (.tail _ (.tail _ (.tail _ (.tail _ (.tail _ (.tail _ (.head _)))))))))) | exact .tail _ (.tail _ (.tail _ (.tail _ (.tail _ (.tail _ (.tail _ (.tail _ (.tail _ (.tail _ (.tail _ (.head _)))))))))))) (by simp; omega) (by exact rfl) fun v1 hv1 hv2 => ?_
  refine r_move (k := ?_)
  refine r_len (k := ?_)
  refine r_cv_i_8 (k := ?_)
  refine r_litB (xs := [.tmp 16]) (bs := [UInt8.ofNat s'.xs.length]) (by exact tl rfl) (by exact z5) (by exact rfl) (by exact rfl) (by exact rfl) (by exact rfl) (by exact rfl) fun v3 _ _ => ?_
  refine o_rowB fun s1 hs1 hx1 e => ?_
  subst e
  refine r_appendB (xs := [] ++ b.xs) (s := s1) (by exact tl rfl) (by exact z5) (by exact rfl) (by exact rfl) (by first | exact .head _ | exact .tail _ (.head _) | exact .tail _ (.tail _ (.head _)) | exact .tail _ (.tail _ (.tail _ (.head _))) | exact .tail _ (.tail _ (.tail _ (.tail _ (.head _)))) | exact .tail _ (.tail _ (.tail _ (.tail _ (.tail _ (.head _))))) | exact .tail _ (.tail _ (.tail _ (.tail _ (.tail _ (.tail _ (.head _)))))) | exact .tail _ (.tail _ (.tail _ (.tail _ (.tail _ (.tail _ (.tail _ (.head _))))))) | exact .tail _ (.tail _ (.tail _ (.tail _ (.tail _ (.tail _ (.tail _ (.tail _ (.head _)))))))) | exact .tail _ (.tail _ (.tail _ (.tail _ (.tail _ (.tail _ (.tail _ (.tail _ (.tail _ (.head _))))))))) | exact .tail _ (.tail _ (.tail _ (.tail _ (.tail _ (.tail _ (.tail _ (.tail _ (.tail _ (.tail _ (.head _)))))))))) | exact .tail _ (.tail _ (.tail _ (.tail _ (.tail _ (.tail _ (.tail _ (.tail _ (.tail _ (.tail _ (.tail _ (.head _)))))))))))) (by rw [hx1]; simp; omega) (by exact rfl) fun v4 hv5 hv6 => ?_
  refine r_assign (k := ?_)
  refine sl_nil ?_
  refine sp_then ?_
  refine sw_seq ?_
  refine sw_region ?_
  refine r_move (k := ?_)
  refine r_move (k := ?_)
  refine r_appendB (xs := ([] ++ b.xs) ++ s1.xs) (s := s') (by exact tl rfl) (by exact z5) (by exact rfl) (by exact rfl) (by first | exact .head _ | exact .tail _ (.head _) | exact .tail _ (.tail _ (.head _)) | exact .tail _ (.tail _ (.tail _ (.head _))) | exact .tail _ (.tail _ (.tail _ (.tail _ (.head _)))) | exact .tail _ (.tail _ (.tail _ (.tail _ (.tail _ (.head _))))) | exact .tail _ (.tail _ (.tail _ (.tail _ (.tail _ (.tail _ (.head _)))))) | exact .tail _ (.tail _ (.tail _ (.tail _ (.tail _ (.tail _ (.tail _ (.head _))))))) | exact .tail _ (.tail _ (.tail _ (.tail _ (.tail _ (.tail _ (.tail _ (.tail _ (.head _)))))))) | exact .tail _ (.tail _ (.tail _ (.tail _ (.tail _ (.tail _ (.tail _ (.tail _ (.tail _ (.head _))))))))) | exact .tail _ (.tail _ (.tail _ (.tail _ (.tail _ (.tail _ (.tail _ (.tail _ (.tail _ (.tail _ (.head _)))))))))) | exact .tail _ (.tail _ (.tail _ (.tail _ (.tail _ (.tail _ (.tail _ (.tail _ (.tail _ (.tail _ (.tail _ (.head _)))))))))))) (by rw [hx1, hx']; simp; omega) (by exact rfl) fun v5 hv7 hv8 => ?_
  refine r_assign (k := ?_)
  refine sl_nil ?_
  refine sp_then ?_
  refine sw_ret ?_
  refine sp_rowB fun r hr hxr e => ?_
  subst e
  refine sp_retv rfl rfl (.tmp rfl) rfl rfl ⟨rfl, r, rfl, hr, ?_, rfl⟩ (by simp) rfl (by simp)
  rw [hxr, hx1, hx']; simp

theorem c_r2takeBytes (G : Res) (b : BS) (hok : b.ok) (n : UInt8) (l : List UInt8) (hb : b.xs = n :: l) (hbl : l.length ≤ 1099511627776) (most : Int) : Ctr Tryd.prog G 64 [b.v, vi most] [] [b.res]
    (retF fun v Φ' => ∃ k r : BS, v = .tuple #[k.v, r.v, vi (takeB n l most).2.2] ∧ k.ok ∧ r.ok ∧ k.xs = (takeB n l most).1 ∧ r.xs = (takeB n l most).2.1 ∧ Φ' = [k.res, r.res]) := by
  have hlen : b.xs.length = l.length + 1 := by rw [hb]; rfl
  have hn := lt8 n
  have hload : (bv b.xs)[0 * 1]? = some (v8 n) := by rw [hb]; rfl
  refine Ctr.intro Tryd.func64 (by kernel_rfl) rfl Tryd.ntmps64 rfl rfl rfl fun w X => ?_
  refine sw_seq ?_
  refine sw_region ?_
  refine r_assign (k := ?_)
  refine r_assign (k := ?_)
  refine r_assign (k := ?_)
  refine sl_nil ?_
  refine sp_then ?_
  refine sw_seq ?_
  refine sw_seq ?_
  refine sw_region ?_
  refine r_move (k := ?_)
  refine r_len (k := ?_)
  refine r_eql (k := ?_)
  refine r_move (k := ?_)
  refine r_re (t := 11) (v' := vb false) rfl (by rw [decide_eq_false (by omega)]) ?_
  refine gd_yes (k := ?_)
  refine r_move (k := ?_)
  refine gd_yes (k := ?_)
  refine r_len (k := ?_)
  refine gd_yes (k := ?_)
  refine r_sub64 (k := ?_)
  refine gd_yes (k := ?_)
  refine r_move (k := ?_)
  refine gd_yes (k := ?_)
  refine r_idx (k := ?_)
  refine gd_yes (k := ?_)
  refine r_load_mem1 (by exact tz rfl) (by exact rfl) (by first | exact .head _ | exact .tail _ (.head _) | exact .tail _ (.tail _ (.head _)) | exact .tail _ (.tail _ (.tail _ (.head _))) | exact .tail _ (.tail _ (.tail _ (.tail _ (.head _)))) | exact .tail _ (.tail _ (.tail _ (.tail _ (.tail _ (.head _))))) | exact .tail _ (.tail _ (.tail _ (.tail _ (.tail _ (.tail _ (.head _)))))) | exact .tail _ (.tail _ (.tail _ (.tail _ (.tail _ (.tail _ (.tail _ (.head _))))))) | exact .tail _ (.tail _ (.tail _ (.tail _ (.tail _ (.tail _ (.tail _ (.tail _ (.head _)))))))) | exact .tail _ (.tail _ (.tail _ (.tail _ (.tail _ (.tail _ (.tail _ (.tail _ (.tail _ (.head _))))))))) | exact .tail _ (.tail _ (.tail _ (.tail _ (.tail _ (.tail _ (.tail _ (.tail _ (.tail _ (.tail _ (.head _)))))))))) | exact .tail _ (.tail _ (.tail _ (.tail _ (.tail _ (.tail _ (.tail _ (.tail _ (.tail _ (.tail _ (.tail _ (.head _)))))))))))) hload (by exact rfl) ?_
  refine gd_yes (k := ?_)
  refine r_cv_8_i (k := ?_)
  refine gd_yes (k := ?_)
  refine r_lss (k := ?_)
  refine rd_pick_f (k := ?_)
  refine sl_nil ?_
  refine sp_then ?_
  refine sw_cond rfl (fun h => ?_) (fun h => ?_)
  · have h := of_decide_eq_true h
    have e : takeB n l most = ([], n :: l, 20) := if_pos (by omega)
    rw [e]
    refine sw_seq ?_
    refine sw_region ?_
    refine r_move (k := ?_)
    refine r_assign (k := ?_)
    refine r_assign (k := ?_)
    refine r_assign (k := ?_)
    refine sl_nil ?_
    refine sp_then ?_
    refine sw_ret ?_
    refine sp_then_ret ?_
    refine sp_of_sl (fun h => f_have (φ := BS.nil.res) (fun V w hw => nil_res) h) ?_
    refine sp_ret3 rfl rfl (.tmp rfl) (.tmp rfl) (.tmp rfl) rfl rfl ⟨rfl, BS.nil, b, rfl, ⟨Nat.le_refl _, Nat.zero_le _⟩, hok, rfl, hb, rfl⟩ (by simp) rfl (by simp)
  have h := of_decide_eq_false h
  have e1 : ¬ ((l.length : Int) + 1 ≤ (n.toNat : Int)) := by omega
  refine sw_skip ?_
  refine sp_then ?_
  refine sw_seq ?_
  refine sw_region ?_
  refine r_move (k := ?_)
  refine r_idx (k := ?_)
  refine r_load_mem1 (by exact tz rfl) (by exact rfl) (by first | exact .head _ | exact .tail _ (.head _) | exact .tail _ (.tail _ (.head _)) | exact .tail _ (.tail _ (.tail _ (.head _))) | exact .tail _ (.tail _ (.tail _ (.tail _ (.head _)))) | exact .tail _ (.tail _ (.tail _ (.tail _ (.tail _ (.head _))))) | exact .tail _ (.tail _ (.tail _ (.tail _ (.tail _ (.tail _ (.head _)))))) | exact .tail _ (.tail _ (.tail _ (.tail _ (.tail _ (.tail _ (.tail _ (.head _))))))) | exact .tail _ (.tail _ (.tail _ (.tail _ (.tail _ (.tail _ (.tail _ (.tail _ (.head _)))))))) | exact .tail _ (.tail _ (.tail _ (.tail _ (.tail _ (.tail _ (.tail _ (.tail _ (.tail _ (.head _))))))))) | exact .tail _ (.tail _ (.tail _ (.tail _ (.tail _ (.tail _ (.tail _ (.tail _ (.tail _ (.tail _ (.head _)))))))))) | exact .tail _ (.tail _ (.tail _ (.tail _ (.tail _ (.tail _ (.tail _ (.tail _ (.tail _ (.tail _ (.tail _ (.head _)))))))))))) hload (by exact rfl) ?_
  refine r_cv_8_i (k := ?_)
  refine r_assign (k := ?_)
  refine sl_nil ?_
  refine sp_then ?_
  refine sw_seq ?_
  refine sw_seq ?_
  refine sw_region ?_
  refine r_move (k := ?_)
  refine r_move (k := ?_)
  refine r_gtr (k := ?_)
  refine sl_nil ?_
  refine sp_then ?_
  refine sw_cond rfl (fun h => ?_) (fun h => ?_)
  · have h := of_decide_eq_true h
    have e : takeB n l most = ([], n :: l, 21) := by unfold takeB; rw [if_neg e1, if_pos h]
    rw [e]
    refine sw_seq ?_
    refine sw_region ?_
    refine r_move (k := ?_)
    refine r_assign (k := ?_)
    refine r_assign (k := ?_)
    refine r_assign (k := ?_)
    refine sl_nil ?_
    refine sp_then ?_
    refine sw_ret ?_
    refine sp_then_ret ?_
    refine sp_of_sl (fun h => f_have (φ := BS.nil.res) (fun V w hw => nil_res) h) ?_
    refine sp_ret3 rfl rfl (.tmp rfl) (.tmp rfl) (.tmp rfl) rfl rfl ⟨rfl, BS.nil, b, rfl, ⟨Nat.le_refl _, Nat.zero_le _⟩, hok, rfl, hb, rfl⟩ (by simp) rfl (by simp)
  have h := of_decide_eq_false h
  have e : takeB n l most = (l.take n.toNat, l.drop n.toNat, 0) := by unfold takeB; rw [if_neg e1, if_neg h]
  rw [e]
  refine sw_skip ?_
  refine sp_then ?_
  refine sw_seq ?_
  have hadd : (1 : Int) + (n.toNat : Int) = ((1 + n.toNat : Nat) : Int) := by simp
  refine sw_draw [] [b.res] [0, 1, 2, 3, 4, 5, 6, 7, 8, 9, 10, 11, 12] mix (by kernel_rfl) rfl ?_
  refine ra_first 1 [] [0, 2, 3, 4, 5, 6, 7, 8, 9, 10, 11, 12] (hq := by exact q_move) (k := ?_)
  refine ra_first 2 [] [0, 3, 4, 5, 6, 7, 8, 9, 10, 11, 12] (hq := by exact q_move) (k := ?_)
  refine ra_first 3 [] [0, 4, 5, 6, 7, 8, 9, 10, 11, 12] (hq := by exact q_addI (r := ((1 + n.toNat : Nat) : Int)) (by exact rfl) (by exact rfl) hadd (by omega) (by omega)) (k := ?_)
  refine ra_first 4 [] [0, 5, 6, 7, 8, 9, 10, 11, 12] (hq := by exact q_cutB (s := b) (l := 1) (h := 1 + n.toNat) (by exact tl rfl) (by exact rfl) hok ⟨_, rfl⟩ ⟨_, rfl⟩ (by omega) (by omega)) (k := ?_)
  refine ra_first 6 [] [0, 5, 7, 8, 9, 10, 11, 12] (hq := by exact q_move) (k := ?_)
  refine ra_first 7 [] [0, 5, 8, 9, 10, 11, 12] (hq := by exact q_move) (k := ?_)
  refine ra_first 8 [] [0, 5, 9, 10, 11, 12] (hq := by exact q_addI (r := ((1 + n.toNat : Nat) : Int)) (by exact rfl) (by exact rfl) hadd (by omega) (by omega)) (k := ?_)
  refine ra_first 9 [] [0, 5, 10, 11, 12] (hq := by exact q_cutB (s := b) (l := 1 + n.toNat) (h := b.xs.length) (by exact tl rfl) (by exact rfl) hok ⟨_, rfl⟩ rfl (by omega) (Nat.le_refl _)) (k := ?_)
  refine ra1 (i := 0) [5, 10, 11, 12] (h := ?_)
  refine r_litB (xs := []) (bs := []) (by exact tl rfl) (by exact z5) (by exact rfl) (by exact rfl) (by exact rfl) (by exact rfl) (by exact rfl) fun v h1 h2 => ?_
  refine sl_nil ?_
  refine sp_nx (k := ?_)
  refine ra1 (i := 5) [10, 11, 12] (h := ?_)
  refine f_have (φ := (cutB b 1 (1 + n.toNat)).res) (fun V w hw => cutB_res (hw _ (.head _)) hok (by omega) (by omega)) ?_
  refine r_appendB (xs := []) (s := cutB b 1 (1 + n.toNat)) (by exact tl rfl) (by exact z5) (by exact rfl) (by exact rfl) (by first | exact .head _ | exact .tail _ (.head _) | exact .tail _ (.tail _ (.head _)) | exact .tail _ (.tail _ (.tail _ (.head _))) | exact .tail _ (.tail _ (.tail _ (.tail _ (.head _)))) | exact .tail _ (.tail _ (.tail _ (.tail _ (.tail _ (.head _))))) | exact .tail _ (.tail _ (.tail _ (.tail _ (.tail _ (.tail _ (.head _)))))) | exact .tail _ (.tail _ (.tail _ (.tail _ (.tail _ (.tail _ (.tail _ (.head _))))))) | exact .tail _ (.tail _ (.tail _ (.tail _ (.tail _ (.tail _ (.tail _ (.tail _ (.head _)))))))) | exact .tail _ (.tail _ (.tail _ (.tail _ (.tail _ (.tail _ (.tail _ (.tail _ (.tail _ (.head _))))))))) | exact .tail _ (.tail _ (.tail _ (.tail _ (.tail _ (.tail _ (.tail _ (.tail _ (.tail _ (.tail _ (.head _)))))))))) | exact .tail _ (.tail _ (.tail _ (.tail _ (.tail _ (.tail _ (.tail _ (.tail _ (.tail _ (.tail _ (.tail _ (.head _)))))))))))) (by simp [cutB]; omega) (by exact rfl) fun v' h3 h4 => ?_
  refine sl_nil ?_
  refine sp_nx (k := ?_)
  refine ra_first 10 [] [11, 12] (hq := by exact q_assign) (k := ?_)
  refine ra_first 11 [] [12] (hq := by exact q_assign) (k := ?_)
  refine ra_first 12 [] [] (hq := by exact q_assign) (k := ?_)
  refine ra_done ?_
  refine sp_then ?_
  refine sw_ret ?_
  refine sp_rowB fun k hk hkx ek => ?_
  subst ek
  refine sp_of_sl (fun h => f_have (φ := (cutB b (1 + n.toNat) b.xs.length).res) (fun V w hw => cutB_res (hw _ (.tail _ (.tail _ (.head _)))) hok (by omega) (Nat.le_refl _)) h) ?_
  refine sp_ret3 rfl rfl (.tmp rfl) (.tmp rfl) (.tmp rfl) rfl rfl ⟨rfl, k, cutB b (1 + n.toNat) b.xs.length, rfl, hk, cutB_ok hok (Nat.le_refl _), ?_, ?_, rfl⟩ (by simp) rfl (by simp)
  · rw [hkx]; simp [cutB, hb]
  · simp [cutB, hb]
    rw [Nat.add_comm 1, List.drop_succ_cons, List.take_of_length_le (by simp)]

theorem bv_set' (l : List UInt8) (i : Nat) (x : UInt8) : (bv l).set i (v8 x) = bv (l.set i x) := by simp [bv, List.map_set]
theorem fill_set (l : List UInt8) (i : Nat) (hi : i < l.length) (hl : l.length ≤ 256) : (l.take i ++ zeros (256 - i)).set i l[i] = l.take (i + 1) ++ zeros (256 - (i + 1)) := by
  have h : (l.take i).length = i := by simp; omega
  rw [List.set_append_right _ _ (by omega), h, Nat.sub_self, List.take_succ_eq_append_getElem hi, zeros, show 256 - i = (256 - (i + 1)) + 1 by omega, List.replicate_succ, List.set_cons_zero, List.append_assoc]
  rfl
theorem c_r2fill (G : Res) (s : BS) (hl : s.xs.length ≤ 256) : Ctr Tryd.prog G 60 [s.v] [] [s.res] (ret1 (.tuple #[.agg (bv (s.xs ++ zeros (256 - s.xs.length))).toArray, vi 0])) := by
  refine Ctr.intro Tryd.func60 (by kernel_rfl) rfl Tryd.ntmps60 rfl rfl rfl fun w X => ?_
  refine sw_seq ?_
  refine sw_region ?_
  refine r_alloc (by exact z37) (cs := bv (zeros 256)) (by kernel_rfl) (by exact rfl) fun b2 => ?_
  refine r_assign (k := ?_)
  refine sl_nil ?_
  refine sp_then ?_
  refine sw_seq ?_
  refine sw_region ?_
  refine r_alloc (by exact z37) (cs := bv (zeros 256)) (by kernel_rfl) (by exact rfl) fun b4 => ?_
  refine sl_nil ?_
  refine sp_then ?_
  refine sw_seq ?_
  refine sw_seq ?_
  refine sw_region ?_
  refine r_move (k := ?_)
  refine r_len (k := ?_)
  refine r_gtr (k := ?_)
  refine sl_nil ?_
  refine sp_then ?_
  refine sw_cond rfl (fun h => ?_) (fun h => ?_)
  · have h := of_decide_eq_true h
    exact absurd h (by omega)
  refine sw_skip ?_
  refine sp_then ?_
  refine sw_seq ?_
  refine sw_seq ?_
  refine sw_region ?_
  refine r_assign (k := ?_)
  refine sl_nil ?_
  refine sp_then ?_
  refine sw_block ?_
  refine sw_loop (ι := { i : Nat // i ≤ s.xs.length }) (fun i => [(0, s.v), (2, .pointer (some ⟨b2, 0, none⟩)), (4, .pointer (some ⟨b4, 0, none⟩)), (5, vi (i.1 : Int))]) (fun i => [.box b4 (bv (s.xs.take i.1 ++ zeros (256 - i.1))) 37, .box b2 (bv (zeros 256)) 37]) (fun _ => [s.res]) (fun _ => []) (fun i => s.xs.length - i.1) ⟨0, by omega⟩ ?_ fun i => ?_
  · exact Ent.mk' (by repeat' (first | trivial | exact rfl | apply And.intro)) (by repeat' (first | trivial | exact .head _ | exact .tail _ (.head _) | exact .tail _ (.tail _ (.head _)) | exact .tail _ (.tail _ (.tail _ (.head _))) | exact .tail _ (.tail _ (.tail _ (.tail _ (.head _)))) | exact .tail _ (.tail _ (.tail _ (.tail _ (.tail _ (.head _))))) | exact .tail _ (.tail _ (.tail _ (.tail _ (.tail _ (.tail _ (.head _)))))) | exact .tail _ (.tail _ (.tail _ (.tail _ (.tail _ (.tail _ (.tail _ (.head _))))))) | exact .tail _ (.tail _ (.tail _ (.tail _ (.tail _ (.tail _ (.tail _ (.tail _ (.head _)))))))) | exact .tail _ (.tail _ (.tail _ (.tail _ (.tail _ (.tail _ (.tail _ (.tail _ (.tail _ (.head _))))))))) | exact .tail _ (.tail _ (.tail _ (.tail _ (.tail _ (.tail _ (.tail _ (.tail _ (.tail _ (.tail _ (.head _)))))))))) | exact .tail _ (.tail _ (.tail _ (.tail _ (.tail _ (.tail _ (.tail _ (.tail _ (.tail _ (.tail _ (.tail _ (.head _))))))))))) | apply And.intro))
  obtain ⟨i, hi⟩ := i
  dsimp only
  have hcl : (bv (s.xs.take i ++ zeros (256 - i))).length = 256 := by simp [bv, zeros]; omega
  refine sw_seq ?_
  refine sw_seq ?_
  refine sw_region ?_
  refine r_move (k := ?_)
  refine r_move (k := ?_)
  refine r_len (k := ?_)
  refine r_lss (k := ?_)
  refine sl_nil ?_
  refine sp_then ?_
  refine sw_cond rfl (fun h => ?_) (fun h => ?_)
  · have h := of_decide_eq_true h
    have hin : i < s.xs.length := by omega
    refine sw_skip ?_
    refine sp_then ?_
    refine sw_seq ?_
    refine sw_block ?_
    refine sw_region ?_
    refine r_move (k := ?_)
    refine r_move (k := ?_)
    refine r_move (k := ?_)
    refine r_idx (k := ?_)
    refine r_load_mem1 (v := v8 s.xs[i]) (by exact tz rfl) (by exact rfl) (by first | exact .head _ | exact .tail _ (.head _) | exact .tail _ (.tail _ (.head _)) | exact .tail _ (.tail _ (.tail _ (.head _))) | exact .tail _ (.tail _ (.tail _ (.tail _ (.head _)))) | exact .tail _ (.tail _ (.tail _ (.tail _ (.tail _ (.head _))))) | exact .tail _ (.tail _ (.tail _ (.tail _ (.tail _ (.tail _ (.head _)))))) | exact .tail _ (.tail _ (.tail _ (.tail _ (.tail _ (.tail _ (.tail _ (.head _))))))) | exact .tail _ (.tail _ (.tail _ (.tail _ (.tail _ (.tail _ (.tail _ (.tail _ (.head _)))))))) | exact .tail _ (.tail _ (.tail _ (.tail _ (.tail _ (.tail _ (.tail _ (.tail _ (.tail _ (.head _))))))))) | exact .tail _ (.tail _ (.tail _ (.tail _ (.tail _ (.tail _ (.tail _ (.tail _ (.tail _ (.tail _ (.head _)))))))))) | exact .tail _ (.tail _ (.tail _ (.tail _ (.tail _ (.tail _ (.tail _ (.tail _ (.tail _ (.tail _ (.tail _ (.head _)))))))))))) (by rw [Nat.mul_one]; exact bv_get _ _ (by omega)) (by exact rfl) ?_
    refine r_idx_arr (k := ?_)
    refine r_store1 (cs := bv (s.xs.take i ++ zeros (256 - i))) (by exact tz rfl) (by exact rfl) (by exact rfl) (by exact rfl) rfl (by first | exact .hd | exact .tl (.hd) | exact .tl (.tl (.hd)) | exact .tl (.tl (.tl (.hd))) | exact .tl (.tl (.tl (.tl (.hd)))) | exact .tl (.tl (.tl (.tl (.tl (.hd))))) | exact .tl (.tl (.tl (.tl (.tl (.tl (.hd)))))) | exact .tl (.tl (.tl (.tl (.tl (.tl (.tl (.hd))))))) | exact .tl (.tl (.tl (.tl (.tl (.tl (.tl (.tl (.hd)))))))) | exact .tl (.tl (.tl (.tl (.tl (.tl (.tl (.tl (.tl (.hd))))))))) | exact .tl (.tl (.tl (.tl (.tl (.tl (.tl (.tl (.tl (.tl (.hd)))))))))) | exact .tl (.tl (.tl (.tl (.tl (.tl (.tl (.tl (.tl (.tl (.tl (.hd)))))))))))) (by rw [hcl]; simp [Nat.blt_eq]; omega) rfl ?_
    refine sl_nil ?_
    refine sp_block ?_
    refine sp_then ?_
    refine sw_region ?_
    refine r_move (k := ?_)
    refine r_add64 (k := ?_)
    refine r_assign (k := ?_)
    refine sl_nil ?_
    refine sp_eqB (B' := [.box b4 (bv (s.xs.take (i + 1) ++ zeros (256 - (i + 1)))) 37, .box b2 (bv (zeros 256)) 37]) (by rw [bv_set', Nat.zero_add, Nat.mul_one, fill_set _ _ hin hl]) ?_
    refine sp_loop (ι := { i : Nat // i ≤ s.xs.length }) ⟨i + 1, by omega⟩ ?_ ?_
    · dsimp only; omega
    · exact Ent.mk' (by repeat' (first | trivial | exact rfl | apply And.intro)) (by repeat' (first | trivial | exact .head _ | exact .tail _ (.head _) | exact .tail _ (.tail _ (.head _)) | exact .tail _ (.tail _ (.tail _ (.head _))) | exact .tail _ (.tail _ (.tail _ (.tail _ (.head _)))) | exact .tail _ (.tail _ (.tail _ (.tail _ (.tail _ (.head _))))) | exact .tail _ (.tail _ (.tail _ (.tail _ (.tail _ (.tail _ (.head _)))))) | exact .tail _ (.tail _ (.tail _ (.tail _ (.tail _ (.tail _ (.tail _ (.head _))))))) | exact .tail _ (.tail _ (.tail _ (.tail _ (.tail _ (.tail _ (.tail _ (.tail _ (.head _)))))))) | exact .tail _ (.tail _ (.tail _ (.tail _ (.tail _ (.tail _ (.tail _ (.tail _ (.tail _ (.head _))))))))) | exact .tail _ (.tail _ (.tail _ (.tail _ (.tail _ (.tail _ (.tail _ (.tail _ (.tail _ (.tail _ (.head _)))))))))) | exact .tail _ (.tail _ (.tail _ (.tail _ (.tail _ (.tail _ (.tail _ (.tail _ (.tail _ (.tail _ (.tail _ (.head _))))))))))) | apply And.intro))
  · have h := of_decide_eq_false h
    obtain rfl : i = s.xs.length := by omega
    rw [List.take_length] at hcl ⊢
    refine sw_exit ?_
    refine sp_then_exit ?_
    refine sp_loop_exit ?_
    refine sp_block_exit ?_
    refine sp_then ?_
    refine sw_seq ?_
    refine sw_region ?_
    refine r_load_all (cs := bv (s.xs ++ zeros (256 - s.xs.length))) (by exact tz rfl) (by exact rfl) (by first | exact .head _ | exact .tail _ (.head _) | exact .tail _ (.tail _ (.head _)) | exact .tail _ (.tail _ (.tail _ (.head _))) | exact .tail _ (.tail _ (.tail _ (.tail _ (.head _)))) | exact .tail _ (.tail _ (.tail _ (.tail _ (.tail _ (.head _))))) | exact .tail _ (.tail _ (.tail _ (.tail _ (.tail _ (.tail _ (.head _)))))) | exact .tail _ (.tail _ (.tail _ (.tail _ (.tail _ (.tail _ (.tail _ (.head _))))))) | exact .tail _ (.tail _ (.tail _ (.tail _ (.tail _ (.tail _ (.tail _ (.tail _ (.head _)))))))) | exact .tail _ (.tail _ (.tail _ (.tail _ (.tail _ (.tail _ (.tail _ (.tail _ (.tail _ (.head _))))))))) | exact .tail _ (.tail _ (.tail _ (.tail _ (.tail _ (.tail _ (.tail _ (.tail _ (.tail _ (.tail _ (.head _)))))))))) | exact .tail _ (.tail _ (.tail _ (.tail _ (.tail _ (.tail _ (.tail _ (.tail _ (.tail _ (.tail _ (.tail _ (.head _)))))))))))) hcl (by exact rfl) ?_
    refine r_store_all (cs := bv (zeros 256)) (vs := bv (s.xs ++ zeros (256 - s.xs.length))) (by exact tz rfl) (by exact rfl) (by exact rfl) (by first | exact .hd | exact .tl (.hd) | exact .tl (.tl (.hd)) | exact .tl (.tl (.tl (.hd))) | exact .tl (.tl (.tl (.tl (.hd)))) | exact .tl (.tl (.tl (.tl (.tl (.hd))))) | exact .tl (.tl (.tl (.tl (.tl (.tl (.hd)))))) | exact .tl (.tl (.tl (.tl (.tl (.tl (.tl (.hd))))))) | exact .tl (.tl (.tl (.tl (.tl (.tl (.tl (.tl (.hd)))))))) | exact .tl (.tl (.tl (.tl (.tl (.tl (.tl (.tl (.tl (.hd))))))))) | exact .tl (.tl (.tl (.tl (.tl (.tl (.tl (.tl (.tl (.tl (.hd)))))))))) | exact .tl (.tl (.tl (.tl (.tl (.tl (.tl (.tl (.tl (.tl (.tl (.hd)))))))))))) rfl hcl (bv_one _) (by rw [bv_len]; rfl) ?_
    refine r_assign (k := ?_)
    refine sl_nil ?_
    refine sp_then ?_
    refine sw_ret ?_
    refine sp_ret2 rfl rfl (.agg rfl (tz rfl) hcl (.tail _ (.head _))) (.tmp rfl) rfl rfl ⟨rfl, rfl, rfl⟩ (by simp) rfl (by simp)
end Go.Proofs.YtjahiohlekdhoaaDoor
