/-
  The walks of the document's pack.
-/
import Derived.Test.YtjahiohlekdhoaaDoorRef1
import Derived.Test.YtjahiohlekdhoaaDoorPack2
namespace Go.Proofs.YtjahiohlekdhoaaDoor
open Go
set_option maxHeartbeats 4000000
set_option maxRecDepth 4000
attribute [local irreducible] SW SL SP RA Then FQ IQ LoopQ RQ AQ NX CutQ Exit.noGoto

theorem c_r2wide (G : Res) (n : Nat) (h1 : 1 ≤ n) (h8 : n ≤ 8) : Ctr Tryd.prog G 93 [vi (n : Int)] [] [] (ret1 (vi (n : Int))) := by
  refine Ctr.intro Tryd.func93 (by kernel_rfl) rfl Tryd.ntmps93 rfl rfl rfl fun w X => ?_
  refine sw_seq ?_
  refine sw_region ?_
  refine r_assign (k := ?_)
  refine sl_nil ?_
  refine sp_then ?_
  refine sw_seq ?_
  refine sw_region ?_
  refine r_move (k := ?_)
  refine r_max (k := ?_)
  refine r_min (k := ?_)
  refine r_assign (k := ?_)
  refine sl_nil ?_
  refine sp_then ?_
  refine sw_ret ?_
  have e2 : (if (n : Int) < 1 then 1 else (n : Int)) = n := if_neg (by omega)
  have e1 : (if (8 : Int) < n then 8 else (n : Int)) = n := if_neg (by omega)
  refine sp_retv rfl rfl (.tmp rfl) rfl rfl ⟨?_, rfl, rfl⟩ (by simp) rfl (by simp)
  rw [e2, e1]

theorem shrN (x : UInt64) (k : Nat) (h : k < 64) : (x >>> UInt64.ofNat k).toNat = x.toNat / 2 ^ k := by
  have e : (UInt64.ofNat k).toNat % 64 = k := by rw [UInt64.toNat_ofNat']; omega
  rw [UInt64.toNat_shiftRight, e, Nat.shiftRight_eq_div_pow]
theorem le_at : ∀ (w i : Nat) (n : UInt64), i < w → w ≤ 8 → (le w n)[i]? = some (n >>> UInt64.ofNat (8 * i)).toUInt8
  | w + 1, 0, n, _, _ => by
    have : n >>> UInt64.ofNat (8 * 0) = n := UInt64.toNat_inj.1 (by rw [shrN n _ (by omega)]; simp)
    rw [this]; rfl
  | w + 1, i + 1, n, h, h8 => by
    have e : (n >>> UInt64.ofNat 8) >>> UInt64.ofNat (8 * i) = n >>> UInt64.ofNat (8 * (i + 1)) := UInt64.toNat_inj.1 (by
      rw [shrN _ _ (by omega), shrN _ _ (by omega), shrN _ _ (by omega), Nat.div_div_eq_div_mul, ← Nat.pow_add, show 8 + 8 * i = 8 * (i + 1) by omega])
    rw [le, List.getElem?_cons_succ, le_at w i _ (by omega) (by omega), e]
theorem le_take (w i : Nat) (n : UInt64) (h : i < w) (h8 : w ≤ 8) : (le w n).take (i + 1) = (le w n).take i ++ [(n >>> UInt64.ofNat (8 * i)).toUInt8] := by
  have := le_at w i n h h8
  rw [List.take_add_one, this]; rfl

theorem c_r2put (G : Res) (s : BS) (n : UInt64) (w : Nat) (h1 : 1 ≤ w) (h8 : w ≤ 8) (hl : s.xs.length + w ≤ 140737488355328) : Ctr Tryd.prog G 57 [s.v, v64 n, vi (w : Int)] [] [s.res] (retB (s.xs ++ le w n)) := by
  refine Ctr.intro Tryd.func57 (by kernel_rfl) rfl Tryd.ntmps57 rfl rfl rfl fun w' X => ?_
  refine sw_seq ?_
  refine sw_region ?_
  refine r_assign (k := ?_)
  refine sl_nil ?_
  refine sp_then ?_
  refine sw_seq ?_
  refine sw_region ?_
  refine r_litB (xs := []) (bs := []) (by exact tl rfl) (by exact z5) (by exact rfl) (by exact rfl) (by exact rfl) (by exact rfl) (by exact rfl) fun v _ _ => ?_
  refine r_move (k := ?_)
  refine r_appendB (xs := []) (s := s) (by exact tl rfl) (by exact z5) (by exact rfl) (by exact rfl) (by first | exact .head _ | exact .tail _ (.head _) | exact .tail _ (.tail _ (.head _)) | exact .tail _ (.tail _ (.tail _ (.head _))) | exact .tail _ (.tail _ (.tail _ (.tail _ (.head _)))) | exact .tail _ (.tail _ (.tail _ (.tail _ (.tail _ (.head _))))) | exact .tail _ (.tail _ (.tail _ (.tail _ (.tail _ (.tail _ (.head _)))))) | exact .tail _ (.tail _ (.tail _ (.tail _ (.tail _ (.tail _ (.tail _ (.head _))))))) | exact .tail _ (.tail _ (.tail _ (.tail _ (.tail _ (.tail _ (.tail _ (.tail _ (.head _)))))))) | exact .tail _ (.tail _ (.tail _ (.tail _ (.tail _ (.tail _ (.tail _ (.tail _ (.tail _ (.head _))))))))) | exact .tail _ (.tail _ (.tail _ (.tail _ (.tail _ (.tail _ (.tail _ (.tail _ (.tail _ (.tail _ (.head _)))))))))) | exact .tail _ (.tail _ (.tail _ (.tail _ (.tail _ (.tail _ (.tail _ (.tail _ (.tail _ (.tail _ (.tail _ (.head _)))))))))))) (by simp; omega) (by exact rfl) fun v1 hv1 hv2 => ?_
  refine r_assign (k := ?_)
  refine sl_nil ?_
  refine sp_then ?_
  refine sw_seq ?_
  refine sw_seq ?_
  refine sw_region ?_
  refine r_assign (k := ?_)
  refine sl_nil ?_
  refine sp_then ?_
  refine sw_block ?_
  refine sw_loop (ι := { p : Nat × Value // p.1 ≤ w ∧ p.2.cells = #[p.2] ∧ p.2.oneCell' = true }) (fun p => [(1, v64 n), (2, vi (w : Int)), (7, p.1.2), (8, vi (p.1.1 : Int))]) (fun p => [.row p.1.2 (s.xs ++ (le w n).take p.1.1).length (bv (s.xs ++ (le w n).take p.1.1)) 5 1]) (fun _ => []) (fun _ => []) (fun p => w - p.1.1) ⟨(0, v1), by omega, hv1, hv2⟩ ?_ fun i => ?_
  · have e : s.xs ++ (le w n).take 0 = [] ++ s.xs := by simp
    dsimp only
    rw [e]
    exact Ent.mk' (by repeat' (first | trivial | exact rfl | apply And.intro)) (by repeat' (first | trivial | exact .head _ | exact .tail _ (.head _) | exact .tail _ (.tail _ (.head _)) | exact .tail _ (.tail _ (.tail _ (.head _))) | exact .tail _ (.tail _ (.tail _ (.tail _ (.head _)))) | exact .tail _ (.tail _ (.tail _ (.tail _ (.tail _ (.head _))))) | exact .tail _ (.tail _ (.tail _ (.tail _ (.tail _ (.tail _ (.head _)))))) | exact .tail _ (.tail _ (.tail _ (.tail _ (.tail _ (.tail _ (.tail _ (.head _))))))) | exact .tail _ (.tail _ (.tail _ (.tail _ (.tail _ (.tail _ (.tail _ (.tail _ (.head _)))))))) | exact .tail _ (.tail _ (.tail _ (.tail _ (.tail _ (.tail _ (.tail _ (.tail _ (.tail _ (.head _))))))))) | exact .tail _ (.tail _ (.tail _ (.tail _ (.tail _ (.tail _ (.tail _ (.tail _ (.tail _ (.tail _ (.head _)))))))))) | exact .tail _ (.tail _ (.tail _ (.tail _ (.tail _ (.tail _ (.tail _ (.tail _ (.tail _ (.tail _ (.tail _ (.head _))))))))))) | apply And.intro))
  obtain ⟨⟨i, v2⟩, hi, hv3, hv4⟩ := i
  dsimp only at hi hv3 hv4 ⊢
  refine sw_seq ?_
  refine sw_seq ?_
  refine sw_region ?_
  refine r_move (k := ?_)
  refine r_move (k := ?_)
  refine r_call1 (c_r2wide G w h1 h8) (by exact rfl) (by exact rfl) (by exact rfl) (by simp) (by exact rfl) ?_
  refine r_lss (k := ?_)
  refine sl_nil ?_
  refine sp_then ?_
  refine sw_cond rfl (fun h => ?_) (fun h => ?_)
  · have h := of_decide_eq_true h
    have hiw : i < w := by omega
    refine sw_skip ?_
    refine sp_then ?_
    refine sw_seq ?_
    refine sw_block ?_
    refine sw_region ?_
    refine r_move (k := ?_)
    refine r_move (k := ?_)
    refine r_move (k := ?_)
    refine r_mulI (k := ?_)
    refine r_re (t := 21) (v' := vi ((8 * i : Nat) : Int)) rfl (by simp) ?_
    refine r_cv_i_u (k := ?_)
    refine r_shr64 (by exact rfl) (by exact rfl) (by simp [Nat.blt_eq]; omega) (by exact rfl) ?_
    refine r_cv_64_8 (k := ?_)
    refine r_litB (xs := [.tmp 24]) (bs := [(n >>> UInt64.ofNat (8 * i)).toUInt8]) (by exact tl rfl) (by exact z5) (by exact rfl) (by exact rfl) (by exact rfl) (by exact rfl) (by exact rfl) fun v3 _ _ => ?_
    refine o_rowB fun s1 hs1 hx1 e => ?_
    subst e
    refine r_appendB (xs := s.xs ++ (le w n).take i) (s := s1) (by exact tl rfl) (by exact z5) (by exact rfl) (by exact rfl) (by first | exact .head _ | exact .tail _ (.head _) | exact .tail _ (.tail _ (.head _)) | exact .tail _ (.tail _ (.tail _ (.head _))) | exact .tail _ (.tail _ (.tail _ (.tail _ (.head _)))) | exact .tail _ (.tail _ (.tail _ (.tail _ (.tail _ (.head _))))) | exact .tail _ (.tail _ (.tail _ (.tail _ (.tail _ (.tail _ (.head _)))))) | exact .tail _ (.tail _ (.tail _ (.tail _ (.tail _ (.tail _ (.tail _ (.head _))))))) | exact .tail _ (.tail _ (.tail _ (.tail _ (.tail _ (.tail _ (.tail _ (.tail _ (.head _)))))))) | exact .tail _ (.tail _ (.tail _ (.tail _ (.tail _ (.tail _ (.tail _ (.tail _ (.tail _ (.head _))))))))) | exact .tail _ (.tail _ (.tail _ (.tail _ (.tail _ (.tail _ (.tail _ (.tail _ (.tail _ (.tail _ (.head _)))))))))) | exact .tail _ (.tail _ (.tail _ (.tail _ (.tail _ (.tail _ (.tail _ (.tail _ (.tail _ (.tail _ (.tail _ (.head _)))))))))))) (by rw [hx1]; simp [le_length]; omega) (by exact rfl) fun v4 hv5 hv6 => ?_
    rw [hx1, List.append_assoc, ← le_take w i n hiw h8]
    refine r_assign (k := ?_)
    refine sl_nil ?_
    refine sp_block ?_
    refine sp_then ?_
    refine sw_region ?_
    refine r_move (k := ?_)
    refine r_add64 (k := ?_)
    refine r_assign (k := ?_)
    refine sl_nil ?_
    refine sp_loop (ι := { p : Nat × Value // p.1 ≤ w ∧ p.2.cells = #[p.2] ∧ p.2.oneCell' = true }) ⟨(i + 1, v4), by dsimp only; omega, hv5, hv6⟩ ?_ ?_
    · dsimp only; omega
    · exact Ent.mk' (by repeat' (first | trivial | exact rfl | apply And.intro)) (by repeat' (first | trivial | exact .head _ | exact .tail _ (.head _) | exact .tail _ (.tail _ (.head _)) | exact .tail _ (.tail _ (.tail _ (.head _))) | exact .tail _ (.tail _ (.tail _ (.tail _ (.head _)))) | exact .tail _ (.tail _ (.tail _ (.tail _ (.tail _ (.head _))))) | exact .tail _ (.tail _ (.tail _ (.tail _ (.tail _ (.tail _ (.head _)))))) | exact .tail _ (.tail _ (.tail _ (.tail _ (.tail _ (.tail _ (.tail _ (.head _))))))) | exact .tail _ (.tail _ (.tail _ (.tail _ (.tail _ (.tail _ (.tail _ (.tail _ (.head _)))))))) | exact .tail _ (.tail _ (.tail _ (.tail _ (.tail _ (.tail _ (.tail _ (.tail _ (.tail _ (.head _))))))))) | exact .tail _ (.tail _ (.tail _ (.tail _ (.tail _ (.tail _ (.tail _ (.tail _ (.tail _ (.tail _ (.head _)))))))))) | exact .tail _ (.tail _ (.tail _ (.tail _ (.tail _ (.tail _ (.tail _ (.tail _ (.tail _ (.tail _ (.tail _ (.head _))))))))))) | apply And.intro))
  · have h := of_decide_eq_false h
    obtain rfl : i = w := by omega
    rw [List.take_of_length_le (by rw [le_length]; exact Nat.le_refl _)]
    refine sw_exit ?_
    refine sp_then_exit ?_
    refine sp_loop_exit ?_
    refine sp_block_exit ?_
    refine sp_then ?_
    refine sw_seq ?_
    refine sw_region ?_
    refine r_move (k := ?_)
    refine r_assign (k := ?_)
    refine sl_nil ?_
    refine sp_then ?_
    refine sw_ret ?_
    refine sp_rowB fun r hr hxr e => ?_
    subst e
    refine sp_retv rfl rfl (.tmp rfl) rfl rfl ⟨rfl, r, rfl, hr, hxr, rfl⟩ (by simp) rfl (by simp)

theorem unle_snoc : ∀ (l : List UInt8) (b : UInt8), l.length ≤ 7 → (unle (l ++ [b])).toNat = (unle l).toNat + b.toNat * 256 ^ l.length
  | [], b, _ => by rw [List.nil_append, unle_step _ _ (by simp), unle_nil]; simp
  | c :: l, b, h => by
    have h6 : l.length ≤ 6 := by simpa using h
    rw [List.cons_append, unle_step _ _ (by simp; omega), unle_snoc l b (by omega), unle_step _ _ (by omega), List.length_cons, Nat.pow_succ]
    rw [Nat.add_mul, Nat.mul_assoc]; omega
theorem unle_or (l : List UInt8) (b : UInt8) (h : l.length ≤ 7) : unle l ||| (b.toUInt64 <<< UInt64.ofNat (8 * l.length)) = unle (l ++ [b]) := UInt64.toNat_inj.1 (by
  have hb := lt8 b
  have hl := unle_lt l (by omega)
  have e : (UInt64.ofNat (8 * l.length)).toNat % 64 = 8 * l.length := by rw [UInt64.toNat_ofNat']; omega
  have ep : (256 : Nat) ^ l.length = 2 ^ (8 * l.length) := by rw [Nat.pow_mul]
  have e64 : b.toNat * 2 ^ (8 * l.length) < 2 ^ 64 := by
    have h1 : b.toNat * 2 ^ (8 * l.length) < 2 ^ 8 * 2 ^ (8 * l.length) := Nat.mul_lt_mul_of_pos_right hb (Nat.two_pow_pos _)
    rw [← Nat.pow_add] at h1
    exact Nat.lt_of_lt_of_le h1 (Nat.pow_le_pow_right (by omega) (by omega))
  rw [unle_snoc l b h, UInt64.toNat_or, UInt64.toNat_shiftLeft, e, Nat.shiftLeft_eq]
  have eb : b.toUInt64.toNat = b.toNat := by simp
  rw [eb, Nat.mod_eq_of_lt e64, ep, Nat.or_comm]
  rw [ep] at hl
  have := Nat.two_pow_add_eq_or_of_lt hl b.toNat
  rw [Nat.mul_comm] at this
  rw [← this]; omega)
theorem unle_take (l : List UInt8) (i n : Nat) (hi : i < n) (hn : n ≤ 8) (hl : n ≤ l.length) : unle (l.take i) ||| ((l[i]'(by omega)).toUInt64 <<< UInt64.ofNat (8 * i)) = unle (l.take (i + 1)) := by
  have h : (l.take i).length = i := by simp; omega
  rw [List.take_succ_eq_append_getElem (by omega)]
  have := unle_or (l.take i) (l[i]'(by omega)) (by omega)
  rw [h] at this
  exact this

theorem c_r2take (G : Res) (s : BS) (hok : s.ok) (n : Nat) (h1 : 1 ≤ n) (h8 : n ≤ 8) (hl : n ≤ s.xs.length) : Ctr Tryd.prog G 62 [s.v, vi (n : Int)] [] [s.res] (retF fun v Φ' => ∃ r : BS, v = .tuple #[v64 (unle (s.xs.take n)), r.v, vi 0] ∧ r.ok ∧ r.xs = s.xs.drop n ∧ Φ' = [r.res]) := by
  have hn' : s.xs.length ≤ 9223372036854775807 := Nat.le_trans hok.1 hok.2
  refine Ctr.intro Tryd.func62 (by kernel_rfl) rfl Tryd.ntmps62 rfl rfl rfl fun w X => ?_
  refine sw_seq ?_
  refine sw_region ?_
  refine r_assign (k := ?_)
  refine r_assign (k := ?_)
  refine r_assign (k := ?_)
  refine sl_nil ?_
  refine sp_then ?_
  refine sw_seq ?_
  refine sw_region ?_
  refine r_move (k := ?_)
  refine r_call1 (c_r2wide G n h1 h8) (by exact rfl) (by exact rfl) (by exact rfl) (by simp) (by exact rfl) ?_
  refine r_assign (k := ?_)
  refine sl_nil ?_
  refine sp_then ?_
  refine sw_seq ?_
  refine sw_seq ?_
  refine sw_region ?_
  refine r_move (k := ?_)
  refine r_len (k := ?_)
  refine r_move (k := ?_)
  refine r_lss (k := ?_)
  refine sl_nil ?_
  refine sp_then ?_
  refine sw_cond rfl (fun h => ?_) (fun h => ?_)
  · have h := of_decide_eq_true h
    exact absurd h (by omega)
  refine sw_skip ?_
  refine sp_then ?_
  refine sw_seq ?_
  refine sw_region ?_
  refine r_assign (k := ?_)
  refine sl_nil ?_
  refine sp_then ?_
  refine sw_seq ?_
  refine sw_seq ?_
  refine sw_region ?_
  refine r_assign (k := ?_)
  refine sl_nil ?_
  refine sp_then ?_
  refine sw_block ?_
  refine sw_loop (ι := { i : Nat // i ≤ n }) (fun i => [(0, s.v), (7, vi (n : Int)), (8, v64 (unle (s.xs.take i.1))), (9, vi (i.1 : Int))]) (fun _ => []) (fun _ => [s.res]) (fun _ => []) (fun i => n - i.1) ⟨0, by omega⟩ ?_ fun i => ?_
  · exact Ent.mk' (by repeat' (first | trivial | exact rfl | apply And.intro)) (by repeat' (first | trivial | exact .head _ | exact .tail _ (.head _) | exact .tail _ (.tail _ (.head _)) | exact .tail _ (.tail _ (.tail _ (.head _))) | exact .tail _ (.tail _ (.tail _ (.tail _ (.head _)))) | exact .tail _ (.tail _ (.tail _ (.tail _ (.tail _ (.head _))))) | exact .tail _ (.tail _ (.tail _ (.tail _ (.tail _ (.tail _ (.head _)))))) | exact .tail _ (.tail _ (.tail _ (.tail _ (.tail _ (.tail _ (.tail _ (.head _))))))) | exact .tail _ (.tail _ (.tail _ (.tail _ (.tail _ (.tail _ (.tail _ (.tail _ (.head _)))))))) | exact .tail _ (.tail _ (.tail _ (.tail _ (.tail _ (.tail _ (.tail _ (.tail _ (.tail _ (.head _))))))))) | exact .tail _ (.tail _ (.tail _ (.tail _ (.tail _ (.tail _ (.tail _ (.tail _ (.tail _ (.tail _ (.head _)))))))))) | exact .tail _ (.tail _ (.tail _ (.tail _ (.tail _ (.tail _ (.tail _ (.tail _ (.tail _ (.tail _ (.tail _ (.head _))))))))))) | apply And.intro))
  obtain ⟨i, hi⟩ := i
  dsimp only
  refine sw_seq ?_
  refine sw_seq ?_
  refine sw_region ?_
  refine r_move (k := ?_)
  refine r_move (k := ?_)
  refine r_lss (k := ?_)
  refine sl_nil ?_
  refine sp_then ?_
  refine sw_cond rfl (fun h => ?_) (fun h => ?_)
  · have h := of_decide_eq_true h
    have hin : i < n := by omega
    refine sw_skip ?_
    refine sp_then ?_
    refine sw_seq ?_
    refine sw_block ?_
    refine sw_region ?_
    refine r_move (k := ?_)
    refine r_move (k := ?_)
    refine r_move (k := ?_)
    refine r_idx (k := ?_)
    refine r_load_mem1 (v := v8 (s.xs[i]'(by omega))) (by exact tz rfl) (by exact rfl) (by first | exact .head _ | exact .tail _ (.head _) | exact .tail _ (.tail _ (.head _)) | exact .tail _ (.tail _ (.tail _ (.head _))) | exact .tail _ (.tail _ (.tail _ (.tail _ (.head _)))) | exact .tail _ (.tail _ (.tail _ (.tail _ (.tail _ (.head _))))) | exact .tail _ (.tail _ (.tail _ (.tail _ (.tail _ (.tail _ (.head _)))))) | exact .tail _ (.tail _ (.tail _ (.tail _ (.tail _ (.tail _ (.tail _ (.head _))))))) | exact .tail _ (.tail _ (.tail _ (.tail _ (.tail _ (.tail _ (.tail _ (.tail _ (.head _)))))))) | exact .tail _ (.tail _ (.tail _ (.tail _ (.tail _ (.tail _ (.tail _ (.tail _ (.tail _ (.head _))))))))) | exact .tail _ (.tail _ (.tail _ (.tail _ (.tail _ (.tail _ (.tail _ (.tail _ (.tail _ (.tail _ (.head _)))))))))) | exact .tail _ (.tail _ (.tail _ (.tail _ (.tail _ (.tail _ (.tail _ (.tail _ (.tail _ (.tail _ (.tail _ (.head _)))))))))))) (by rw [Nat.mul_one]; exact bv_get _ _ (by omega)) (by exact rfl) ?_
    refine r_cv_8_64 (k := ?_)
    refine r_move (k := ?_)
    refine r_mulI (k := ?_)
    refine r_re (t := 29) (v' := vi ((8 * i : Nat) : Int)) rfl (by simp) ?_
    refine r_cv_i_u (k := ?_)
    refine r_shl64 (by exact rfl) (by exact rfl) (by simp [Nat.blt_eq]; omega) (by exact rfl) ?_
    refine r_or64 (k := ?_)
    refine r_assign (k := ?_)
    refine sl_nil ?_
    refine sp_block ?_
    refine sp_then ?_
    refine sw_region ?_
    refine r_move (k := ?_)
    refine r_add64 (k := ?_)
    refine r_assign (k := ?_)
    refine sl_nil ?_
    refine sp_re (t := 8) (v' := v64 (unle (s.xs.take (i + 1)))) rfl (by rw [unle_take s.xs i n hin h8 hl]) ?_
    refine sp_loop (ι := { i : Nat // i ≤ n }) ⟨i + 1, by omega⟩ ?_ ?_
    · dsimp only; omega
    · exact Ent.mk' (by repeat' (first | trivial | exact rfl | apply And.intro)) (by repeat' (first | trivial | exact .head _ | exact .tail _ (.head _) | exact .tail _ (.tail _ (.head _)) | exact .tail _ (.tail _ (.tail _ (.head _))) | exact .tail _ (.tail _ (.tail _ (.tail _ (.head _)))) | exact .tail _ (.tail _ (.tail _ (.tail _ (.tail _ (.head _))))) | exact .tail _ (.tail _ (.tail _ (.tail _ (.tail _ (.tail _ (.head _)))))) | exact .tail _ (.tail _ (.tail _ (.tail _ (.tail _ (.tail _ (.tail _ (.head _))))))) | exact .tail _ (.tail _ (.tail _ (.tail _ (.tail _ (.tail _ (.tail _ (.tail _ (.head _)))))))) | exact .tail _ (.tail _ (.tail _ (.tail _ (.tail _ (.tail _ (.tail _ (.tail _ (.tail _ (.head _))))))))) | exact .tail _ (.tail _ (.tail _ (.tail _ (.tail _ (.tail _ (.tail _ (.tail _ (.tail _ (.tail _ (.head _)))))))))) | exact .tail _ (.tail _ (.tail _ (.tail _ (.tail _ (.tail _ (.tail _ (.tail _ (.tail _ (.tail _ (.tail _ (.head _))))))))))) | apply And.intro))
  · have h := of_decide_eq_false h
    obtain rfl : i = n := by omega
    refine sw_exit ?_
    refine sp_then_exit ?_
    refine sp_loop_exit ?_
    refine sp_block_exit ?_
    refine sp_then ?_
    refine sw_seq ?_
    refine sw_draw [] [s.res] [0, 1, 2, 3, 4, 5, 6] mix (by kernel_rfl) rfl ?_
    refine ra_first 0 [] [1, 2, 3, 4, 5, 6] (hq := by exact q_move) (k := ?_)
    refine ra_first 1 [] [2, 3, 4, 5, 6] (hq := by exact q_move) (k := ?_)
    refine ra_first 2 [] [3, 4, 5, 6] (hq := by exact q_move) (k := ?_)
    refine ra_first 3 [] [4, 5, 6] (hq := by exact q_cutB (s := s) (l := i) (h := s.xs.length) (by exact tl rfl) (by exact rfl) hok ⟨_, rfl⟩ rfl hl (Nat.le_refl _)) (k := ?_)
    refine ra_first 4 [] [5, 6] (hq := by exact q_assign) (k := ?_)
    refine ra_first 5 [] [6] (hq := by exact q_assign) (k := ?_)
    refine ra_first 6 [] [] (hq := by exact q_assign) (k := ?_)
    refine ra_done ?_
    refine sp_then ?_
    refine sw_ret ?_
    refine sp_of_sl (fun h => f_have (φ := (cutB s i s.xs.length).res) (fun V w hw => cutB_res (hw _ (.head _)) hok hl (Nat.le_refl _)) h) ?_
    refine sp_ret3 rfl rfl (.tmp rfl) (.tmp rfl) (.tmp rfl) rfl rfl ⟨rfl, cutB s i s.xs.length, rfl, cutB_ok hok (Nat.le_refl _), ?_, rfl⟩ (by simp) rfl (by simp)
    exact List.take_of_length_le (by simp)
end Go.Proofs.YtjahiohlekdhoaaDoor
