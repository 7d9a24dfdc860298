/-
  The walk of suturelaw09.AnchorBack: it tells true.
-/
import Derived.Test.YtjahiohlekdhoaaDoorJust9
namespace Go.Proofs.YtjahiohlekdhoaaDoor
open Go
set_option maxHeartbeats 4000000
set_option maxRecDepth 4000
attribute [local irreducible] SW SL SP RA Then FQ IQ LoopQ RQ AQ NX CutQ Exit.noGoto

section
variable {c : Ctx} {ρ : List (Nat × Value)} {B : List Own} {Φ : List Res} {Ψ : List JR} {ty : Nat} {x y : Operand} {xt yt : TypeId}
theorem q_xor8 {a b : UInt8} (hx : ev ρ x = some (v8 a) := by exact rfl) (hy : ev ρ y = some (v8 b) := by exact rfl) : Qt c ρ B Φ Ψ (.binOp .xor xt x y yt) ty (v8 (a ^^^ b)) := q_bin hx hy (fun w => by
  have e := wr8 (a ^^^ b)
  simp [eqGuard, binOp, Op.intBits, IntKind.bits] at e ⊢
  exact e)
end

theorem bv_set (l : List UInt8) (i : Nat) (x : UInt8) : (bv l).set i (v8 x) = bv (l.set i x) := by simp [bv, List.map_set]
/-- Some bytes of a page are others. -/
def qN (p by' : List UInt8) (at' : Nat) : Nat → List UInt8
  | 0 => p
  | i + 1 => (qN p by' at' i).set (at' + i) ((qN p by' at' i).getD (at' + i) 0 ^^^ by'.getD i 0)
theorem qN_len (p by' : List UInt8) (at' : Nat) : ∀ i, (qN p by' at' i).length = p.length
  | 0 => rfl
  | i + 1 => by rw [qN, List.length_set, qN_len p by' at' i]
theorem qN_take (p by' : List UInt8) (at' : Nat) : ∀ i, (qN p by' at' i).take at' = p.take at'
  | 0 => rfl
  | i + 1 => by rw [qN, List.take_set_of_le (by omega), qN_take p by' at' i]
theorem qN_drop (p by' : List UInt8) (at' n : Nat) : ∀ i, i ≤ n → (qN p by' at' i).drop (at' + n) = p.drop (at' + n)
  | 0, _ => rfl
  | i + 1, h => by rw [qN, List.drop_set_of_lt (by omega), qN_drop p by' at' n i (by omega)]

theorem page_sum (a : AncV) : a.page.drop 248 = le 8 (sum (a.page.take 248)) := by
  have hpl : (padTo 248 a.body).length = 248 := padTo_len _ _
  have htake : a.page.take 248 = padTo 248 a.body := List.take_left' hpl
  rw [htake]
  exact List.drop_left' hpl
theorem le8_inj {x y : UInt64} (h : le 8 x = le 8 y) : x = y := by
  have := congrArg unle h
  rwa [unle_le_id 8 _ (by omega) (show _ < 256 ^ 8 from lt64 _), unle_le_id 8 _ (by omega) (show _ < 256 ^ 8 from lt64 _)] at this
theorem three (p : List UInt8) (i n : Nat) : p = p.take i ++ ((p.drop i).take n ++ p.drop (i + n)) := by
  rw [← List.drop_drop, List.take_append_drop, List.take_append_drop]
/-- CHANGED WITHIN EIGHT BYTES AHEAD OF THE SUM, OR IN THE SUM ITSELF, IT IS NO ANCHOR's PAGE. -/
theorem back_page (a b : AncV) (q : List UInt8) (i : Nat) (hi : i ≤ 240 ∨ i = 248) (hb : b.page = q) (hq : q.length = 256) (ht : q.take i = a.page.take i) (hd : q.drop (i + 8) = a.page.drop (i + 8)) : q = a.page := by
  have hsq : q.drop 248 = le 8 (sum (q.take 248)) := by rw [← hb]; exact page_sum b
  have hsp := page_sum a
  have hpl := page_len a
  rcases hi with h | rfl
  · have e248 : q.drop 248 = a.page.drop 248 := by
      rw [show 248 = (i + 8) + (240 - i) by omega, ← List.drop_drop, hd, List.drop_drop]
    have hs : sum (q.take 248) = sum (a.page.take 248) := le8_inj (by rw [← hsq, ← hsp, e248])
    have cut : ∀ l : List UInt8, l.length = 256 → l.take 248 = l.take i ++ ((l.drop i).take 8 ++ (l.drop (i + 8)).take (240 - i)) := fun l hl => by
      have h1 : (l.drop i).take 8 ++ (l.drop (i + 8)).take (240 - i) = (l.drop i).take (248 - i) := by
        rw [← List.drop_drop, show 248 - i = 8 + (240 - i) by omega, List.take_add]
      rw [h1, show 248 = i + (248 - i) by omega, List.take_add, show i + (248 - i) - i = 248 - i by omega]
    rw [cut q hq, cut a.page hpl, ht, hd] at hs
    have hu := burst _ _ _ _ (by simp; omega) (by simp [hq, hpl]) hs
    rw [three q i 8, three a.page i 8, ht, hd, hu]
  · have e : q.drop 248 = a.page.drop 248 := by rw [hsq, hsp, ht]
    rw [← List.take_append_drop 248 q, ht, e, List.take_append_drop]

theorem tmod_bounds (n : Int) : -249 < n.tmod 249 ∧ n.tmod 249 < 249 := by
  have h1 := Int.tmod_lt_of_pos n (show (0 : Int) < 249 by omega)
  have h2 := Int.lt_tmod_of_pos n (show (0 : Int) < 249 by omega)
  exact ⟨h2, h1⟩

theorem c_lawBack (a : AncV) (hok : a.mark.key.ok) (n : Int) (by' : List UInt8) (hby : by'.length = 8) : Ctr Tryd.prog GW 3 [a.v, vi n, .agg (bv by').toArray] [] [a.mark.key.res] (ret1 (vb true)) := by
  refine Ctr.intro Tryd.func3 (by kernel_rfl) rfl Tryd.ntmps3 rfl rfl rfl fun w X => ?_
  refine sw_seq ?_
  refine sw_region ?_
  refine r_box (cs := a.cs) (by exact rfl) rfl (by exact rfl) fun b3 => ?_
  refine r_box (cs := bv by') (by exact rfl) rfl (by exact rfl) fun b5 => ?_
  refine r_assign (k := ?_)
  refine sl_nil ?_
  refine sp_then ?_
  refine sw_seq ?_
  refine sw_seq ?_
  refine sw_region ?_
  refine r_load_all (k := ?_)
  refine r_lit (vs := [a.v]) (xs := [.tmp 15]) (cells := ancsV [a]) (by exact tl rfl) (by exact z32) (by exact rfl) (by exact rfl) (by intro v hv; simp at hv; subst hv; rfl) (by decide) (by decide) (by exact rfl) (by simp [ancsV, AncV.v, Value.cells]) (by exact rfl) fun q => ?_
  refine o_row fun ba cap e _ _ _ => ?_
  cases e
  skip
  refine r_call1 (c_great GW (some ⟨q, 0, none⟩) 1 [a] (by simp [maxLen])) (by exact rfl) (by exact rfl) (by exact rfl) (by simp) (by exact rfl) ?_
  refine sl_nil ?_
  refine sp_then ?_
  refine sw_cond rfl (fun h => ?_) (fun h => ?_)
  · refine sw_seq ?_
    refine sw_region ?_
    refine r_call1 c_wakes (by exact rfl) (by exact rfl) (by exact rfl) (by simp) (by exact rfl) ?_
    refine r_assign (k := ?_)
    refine sl_nil ?_
    refine sp_then ?_
    refine sw_ret ?_
    refine sp_then_ret ?_
    refine sp_retv rfl rfl (.tmp rfl) rfl rfl ⟨rfl, rfl, rfl⟩ (by simp) rfl (by simp)
  refine sw_skip ?_
  refine sp_then ?_
  refine sw_seq ?_
  refine sw_region ?_
  refine r_load_all (k := ?_)
  have hel : (encV a).1.length = 256 := by
    unfold encV; split
    · exact page_len a
    · simp [zeros]
  refine r_call1 (c_encode a hok) (by exact rfl) (by exact rfl) (by exact rfl) (by simp) (by exact rfl) ?_
  obtain ⟨p, hp⟩ : ∃ p, p = (encV a).1 := ⟨_, rfl⟩
  rw [← hp] at hel ⊢
  have hbp : (bv p).length = 256 := by rw [bv_len]; exact hel
  refine r_move (k := ?_)
  refine r_ext (k := ?_)
  refine r_ext (k := ?_)
  refine r_alloc (by exact z37) (cs := bv (zeros 256)) (by kernel_rfl) (by exact rfl) fun b7 => ?_
  refine r_store_all (cs := bv (zeros 256)) (vs := bv p) (by exact tz rfl) (by exact rfl) (by exact rfl) (by first | exact .hd | exact .tl (.hd) | exact .tl (.tl (.hd)) | exact .tl (.tl (.tl (.hd))) | exact .tl (.tl (.tl (.tl (.hd)))) | exact .tl (.tl (.tl (.tl (.tl (.hd))))) | exact .tl (.tl (.tl (.tl (.tl (.tl (.hd)))))) | exact .tl (.tl (.tl (.tl (.tl (.tl (.tl (.hd))))))) | exact .tl (.tl (.tl (.tl (.tl (.tl (.tl (.tl (.hd)))))))) | exact .tl (.tl (.tl (.tl (.tl (.tl (.tl (.tl (.tl (.hd))))))))) | exact .tl (.tl (.tl (.tl (.tl (.tl (.tl (.tl (.tl (.tl (.hd)))))))))) | exact .tl (.tl (.tl (.tl (.tl (.tl (.tl (.tl (.tl (.tl (.tl (.hd)))))))))))) rfl hbp (bv_one _) (by rw [bv_len]; rfl) ?_
  refine r_assign (k := ?_)
  refine sl_nil ?_
  refine sp_then ?_
  refine sw_seq ?_
  refine sw_seq ?_
  refine sw_region ?_
  refine r_load_all (k := ?_)
  refine r_call1 (c_right GW a) (by exact rfl) (by exact rfl) (by exact rfl) (by simp) (by exact rfl) ?_
  refine r_not (k := ?_)
  refine sl_nil ?_
  refine sp_then ?_
  refine sw_cond rfl (fun hr => ?_) (fun hr => ?_)
  · have hr : a.right = false := by simpa using hr
    have he : encV a = (zeros 256, 2) := by unfold encV; rw [hr]; rfl
    have hpz : p = zeros 256 := by rw [hp, he]
    rw [he]
    refine sw_seq ?_
    refine sw_region ?_
    refine r_move (k := ?_)
    refine r_eql (k := ?_)
    refine r_move (k := ?_)
    refine r_re (t := 29) (v' := vb true) rfl rfl ?_
    refine gd_yes (k := ?_)
    refine r_load_all (cs := bv p) (by exact tz rfl) (by exact rfl) (by first | exact .head _ | exact .tail _ (.head _) | exact .tail _ (.tail _ (.head _)) | exact .tail _ (.tail _ (.tail _ (.head _))) | exact .tail _ (.tail _ (.tail _ (.tail _ (.head _)))) | exact .tail _ (.tail _ (.tail _ (.tail _ (.tail _ (.head _))))) | exact .tail _ (.tail _ (.tail _ (.tail _ (.tail _ (.tail _ (.head _)))))) | exact .tail _ (.tail _ (.tail _ (.tail _ (.tail _ (.tail _ (.tail _ (.head _))))))) | exact .tail _ (.tail _ (.tail _ (.tail _ (.tail _ (.tail _ (.tail _ (.tail _ (.head _)))))))) | exact .tail _ (.tail _ (.tail _ (.tail _ (.tail _ (.tail _ (.tail _ (.tail _ (.tail _ (.head _))))))))) | exact .tail _ (.tail _ (.tail _ (.tail _ (.tail _ (.tail _ (.tail _ (.tail _ (.tail _ (.tail _ (.head _)))))))))) | exact .tail _ (.tail _ (.tail _ (.tail _ (.tail _ (.tail _ (.tail _ (.tail _ (.tail _ (.tail _ (.tail _ (.head _)))))))))))) hbp (by exact rfl) ?_
    refine gd_yes (k := ?_)
    refine r_buildP (bv (zeros 256)) (parts := []) (by exact rfl) (by kernel_rfl) (by exact rfl) ?_
    refine gd_yes (k := ?_)
    refine r_eqagg (xs := (bv p).toArray) (ys := (bv (zeros 256)).toArray) (by exact rfl) (by exact rfl) (by kernel_rfl) (page_eq p (zeros 256) hel rfl) (by exact rfl) ?_
    refine r_re (t := 32) (v' := vb true) rfl (by rw [hpz, beq_self_eq_true]) ?_
    refine rd_pick_t (k := ?_)
    refine r_move (k := ?_)
    refine gd_yes (k := ?_)
    refine r_call1 c_wakes (by exact rfl) (by exact rfl) (by exact rfl) (by simp) (by exact rfl) ?_
    refine rd_pick_t (k := ?_)
    refine r_assign (k := ?_)
    refine sl_nil ?_
    refine sp_then ?_
    refine sw_ret ?_
    refine sp_then_ret ?_
    refine sp_retv rfl rfl (.tmp rfl) rfl rfl ⟨rfl, rfl, rfl⟩ (by simp) rfl (by simp)
  have hr : a.right = true := by simpa using hr
  have he : encV a = (a.page, 0) := by unfold encV; rw [hr]; rfl
  have hpa : p = a.page := by rw [hp, he]
  have hdp : decP p = (a.pure, 0) := by rw [hpa]; exact page_decP a hr
  rw [he]
  dsimp only
  refine sw_skip ?_
  refine sp_then ?_
  refine sw_seq ?_
  refine sw_region ?_
  refine r_load_all (cs := bv p) (by exact tz rfl) (by exact rfl) (by first | exact .head _ | exact .tail _ (.head _) | exact .tail _ (.tail _ (.head _)) | exact .tail _ (.tail _ (.tail _ (.head _))) | exact .tail _ (.tail _ (.tail _ (.tail _ (.head _)))) | exact .tail _ (.tail _ (.tail _ (.tail _ (.tail _ (.head _))))) | exact .tail _ (.tail _ (.tail _ (.tail _ (.tail _ (.tail _ (.head _)))))) | exact .tail _ (.tail _ (.tail _ (.tail _ (.tail _ (.tail _ (.tail _ (.head _))))))) | exact .tail _ (.tail _ (.tail _ (.tail _ (.tail _ (.tail _ (.tail _ (.tail _ (.head _)))))))) | exact .tail _ (.tail _ (.tail _ (.tail _ (.tail _ (.tail _ (.tail _ (.tail _ (.tail _ (.head _))))))))) | exact .tail _ (.tail _ (.tail _ (.tail _ (.tail _ (.tail _ (.tail _ (.tail _ (.tail _ (.tail _ (.head _)))))))))) | exact .tail _ (.tail _ (.tail _ (.tail _ (.tail _ (.tail _ (.tail _ (.tail _ (.tail _ (.tail _ (.tail _ (.head _)))))))))))) hbp (by exact rfl) ?_
  refine r_callF (c_dec p hel) (by exact rfl) (by exact rfl) (by exact rfl) (by simp) (by exact rfl) ?_
  rintro _ _ ⟨a2, rfl, hok2, hpure2, rfl⟩
  rw [hdp] at hpure2 ⊢
  dsimp only at hpure2 ⊢
  refine r_move (k := ?_)
  refine r_ext (k := ?_)
  refine r_ext (k := ?_)
  refine r_alloc (by exact z32) (cs := zeroA.cs) (by kernel_rfl) (by exact rfl) fun b9 => ?_
  refine r_store_all (cs := zeroA.cs) (vs := a2.cs) (by exact tz rfl) (by exact rfl) (by exact rfl) (by first | exact .hd | exact .tl (.hd) | exact .tl (.tl (.hd)) | exact .tl (.tl (.tl (.hd))) | exact .tl (.tl (.tl (.tl (.hd)))) | exact .tl (.tl (.tl (.tl (.tl (.hd))))) | exact .tl (.tl (.tl (.tl (.tl (.tl (.hd)))))) | exact .tl (.tl (.tl (.tl (.tl (.tl (.tl (.hd))))))) | exact .tl (.tl (.tl (.tl (.tl (.tl (.tl (.tl (.hd)))))))) | exact .tl (.tl (.tl (.tl (.tl (.tl (.tl (.tl (.tl (.hd))))))))) | exact .tl (.tl (.tl (.tl (.tl (.tl (.tl (.tl (.tl (.tl (.hd)))))))))) | exact .tl (.tl (.tl (.tl (.tl (.tl (.tl (.tl (.tl (.tl (.tl (.hd)))))))))))) rfl rfl rfl rfl ?_
  refine r_assign (k := ?_)
  refine sl_nil ?_
  refine sp_then ?_
  refine sw_seq ?_
  refine sw_seq ?_
  refine sw_region ?_
  refine r_move (k := ?_)
  refine r_neq (k := ?_)
  refine r_move (k := ?_)
  refine r_re (t := 44) (v' := vb false) rfl rfl ?_
  refine gd_yes (k := ?_)
  refine r_move (k := ?_)
  refine gd_yes (k := ?_)
  refine r_neq (k := ?_)
  refine rd_pick_f (k := ?_)
  refine r_move (k := ?_)
  refine r_re (t := 48) (v' := vb false) rfl rfl ?_
  refine gd_yes (k := ?_)
  refine r_load_all (k := ?_)
  refine gd_yes (k := ?_)
  refine r_load_all (k := ?_)
  refine gd_yes (k := ?_)
  have hcs := c_rsame GW a a2
  rw [(sameV_iff a a2).2 hpure2.symm] at hcs
  refine r_call1 hcs (by exact rfl) (by exact rfl) (by exact rfl) (by simp) (by exact rfl) ?_
  refine gd_yes (k := ?_)
  refine r_not (k := ?_)
  refine rd_pick_f (k := ?_)
  refine sl_nil ?_
  refine sp_then ?_
  refine swd_f (h := ?_)
  refine sw_skip ?_
  refine sp_then ?_
  refine sw_seq ?_
  refine sw_region ?_
  refine r_move (k := ?_)
  obtain ⟨hb1, hb2⟩ := tmod_bounds n
  refine r_rem_i (by exact rfl) (by exact rfl) (by omega) (by exact rfl) ?_
  refine r_add64 (k := ?_)
  refine r_rem_i (by exact rfl) (by exact rfl) (by omega) (by exact rfl) ?_
  obtain ⟨hb3, hb4⟩ := tmod_bounds (n.tmod 249 + 249)
  have hb5 : 0 ≤ (n.tmod 249 + 249).tmod 249 := Int.tmod_nonneg _ (by omega)
  obtain ⟨m, hm⟩ : ∃ m : Nat, (n.tmod 249 + 249).tmod 249 = (m : Int) := ⟨_, (Int.toNat_of_nonneg hb5).symm⟩
  rw [hm]
  obtain ⟨i0, hi0⟩ : ∃ i0 : Nat, i0 = if 240 < m then 248 else m := ⟨_, rfl⟩
  have hi1 : i0 ≤ 240 ∨ i0 = 248 := by rw [hi0]; split <;> omega
  refine r_assign (k := ?_)
  refine sl_nil ?_
  refine sp_then ?_
  refine sw_cut [(3, .pointer (some ⟨b3, 0, none⟩)), (5, .pointer (some ⟨b5, 0, none⟩)), (7, .pointer (some ⟨b7, 0, none⟩)), (1, vi (i0 : Int))] [.box b9 a2.cs 32, .box b7 (bv p) 37, .box b5 (bv by') 33, .box b3 a.cs 32] [a.mark.key.res] [] ?_ ?_
  · refine sw_seq ?_
    refine sw_region ?_
    refine r_move (k := ?_)
    refine r_gtr (k := ?_)
    refine sl_nil ?_
    refine sp_then ?_
    refine sw_cond rfl (fun hg => ?_) (fun hg => ?_)
    · have hg := of_decide_eq_true hg
      refine sw_region ?_
      refine r_assign (k := ?_)
      refine sl_nil ?_
      exact sp_re (t := 1) (v' := vi (i0 : Int)) rfl (by rw [hi0, if_pos (by omega)]; rfl) (sp_cut (by repeat' (first | trivial | exact rfl | apply And.intro)) (by repeat' (first | trivial | exact .head _ | exact .tail _ (.head _) | exact .tail _ (.tail _ (.head _)) | exact .tail _ (.tail _ (.tail _ (.head _))) | exact .tail _ (.tail _ (.tail _ (.tail _ (.head _)))) | exact .tail _ (.tail _ (.tail _ (.tail _ (.tail _ (.head _))))) | exact .tail _ (.tail _ (.tail _ (.tail _ (.tail _ (.tail _ (.head _)))))) | exact .tail _ (.tail _ (.tail _ (.tail _ (.tail _ (.tail _ (.tail _ (.head _))))))) | exact .tail _ (.tail _ (.tail _ (.tail _ (.tail _ (.tail _ (.tail _ (.tail _ (.head _)))))))) | exact .tail _ (.tail _ (.tail _ (.tail _ (.tail _ (.tail _ (.tail _ (.tail _ (.tail _ (.head _))))))))) | exact .tail _ (.tail _ (.tail _ (.tail _ (.tail _ (.tail _ (.tail _ (.tail _ (.tail _ (.tail _ (.head _)))))))))) | exact .tail _ (.tail _ (.tail _ (.tail _ (.tail _ (.tail _ (.tail _ (.tail _ (.tail _ (.tail _ (.tail _ (.head _))))))))))) | apply And.intro)))
    · have hg := of_decide_eq_false hg
      refine sw_skip ?_
      exact sp_re (t := 1) (v' := vi (i0 : Int)) rfl (by rw [hi0, if_neg (by omega)]) (sp_cut (by repeat' (first | trivial | exact rfl | apply And.intro)) (by repeat' (first | trivial | exact .head _ | exact .tail _ (.head _) | exact .tail _ (.tail _ (.head _)) | exact .tail _ (.tail _ (.tail _ (.head _))) | exact .tail _ (.tail _ (.tail _ (.tail _ (.head _)))) | exact .tail _ (.tail _ (.tail _ (.tail _ (.tail _ (.head _))))) | exact .tail _ (.tail _ (.tail _ (.tail _ (.tail _ (.tail _ (.head _)))))) | exact .tail _ (.tail _ (.tail _ (.tail _ (.tail _ (.tail _ (.tail _ (.head _))))))) | exact .tail _ (.tail _ (.tail _ (.tail _ (.tail _ (.tail _ (.tail _ (.tail _ (.head _)))))))) | exact .tail _ (.tail _ (.tail _ (.tail _ (.tail _ (.tail _ (.tail _ (.tail _ (.tail _ (.head _))))))))) | exact .tail _ (.tail _ (.tail _ (.tail _ (.tail _ (.tail _ (.tail _ (.tail _ (.tail _ (.tail _ (.head _)))))))))) | exact .tail _ (.tail _ (.tail _ (.tail _ (.tail _ (.tail _ (.tail _ (.tail _ (.tail _ (.tail _ (.tail _ (.head _))))))))))) | apply And.intro)))
  refine sw_seq ?_
  refine sw_region ?_
  refine r_load_all (cs := bv p) (by exact tz rfl) (by exact rfl) (by first | exact .head _ | exact .tail _ (.head _) | exact .tail _ (.tail _ (.head _)) | exact .tail _ (.tail _ (.tail _ (.head _))) | exact .tail _ (.tail _ (.tail _ (.tail _ (.head _)))) | exact .tail _ (.tail _ (.tail _ (.tail _ (.tail _ (.head _))))) | exact .tail _ (.tail _ (.tail _ (.tail _ (.tail _ (.tail _ (.head _)))))) | exact .tail _ (.tail _ (.tail _ (.tail _ (.tail _ (.tail _ (.tail _ (.head _))))))) | exact .tail _ (.tail _ (.tail _ (.tail _ (.tail _ (.tail _ (.tail _ (.tail _ (.head _)))))))) | exact .tail _ (.tail _ (.tail _ (.tail _ (.tail _ (.tail _ (.tail _ (.tail _ (.tail _ (.head _))))))))) | exact .tail _ (.tail _ (.tail _ (.tail _ (.tail _ (.tail _ (.tail _ (.tail _ (.tail _ (.tail _ (.head _)))))))))) | exact .tail _ (.tail _ (.tail _ (.tail _ (.tail _ (.tail _ (.tail _ (.tail _ (.tail _ (.tail _ (.tail _ (.head _)))))))))))) hbp (by exact rfl) ?_
  refine r_alloc (by exact z37) (cs := bv (zeros 256)) (by kernel_rfl) (by exact rfl) fun b11 => ?_
  refine r_store_all (cs := bv (zeros 256)) (vs := bv p) (by exact tz rfl) (by exact rfl) (by exact rfl) (by first | exact .hd | exact .tl (.hd) | exact .tl (.tl (.hd)) | exact .tl (.tl (.tl (.hd))) | exact .tl (.tl (.tl (.tl (.hd)))) | exact .tl (.tl (.tl (.tl (.tl (.hd))))) | exact .tl (.tl (.tl (.tl (.tl (.tl (.hd)))))) | exact .tl (.tl (.tl (.tl (.tl (.tl (.tl (.hd))))))) | exact .tl (.tl (.tl (.tl (.tl (.tl (.tl (.tl (.hd)))))))) | exact .tl (.tl (.tl (.tl (.tl (.tl (.tl (.tl (.tl (.hd))))))))) | exact .tl (.tl (.tl (.tl (.tl (.tl (.tl (.tl (.tl (.tl (.hd)))))))))) | exact .tl (.tl (.tl (.tl (.tl (.tl (.tl (.tl (.tl (.tl (.tl (.hd)))))))))))) rfl hbp (bv_one _) (by rw [bv_len]; rfl) ?_
  refine sl_nil ?_
  refine sp_then ?_
  refine sw_seq ?_
  refine sw_seq ?_
  refine sw_region ?_
  refine r_assign (k := ?_)
  refine sl_nil ?_
  refine sp_then ?_
  refine sw_block ?_
  refine sw_loop (ι := { i : Nat // i ≤ 8 }) (fun i => [(3, .pointer (some ⟨b3, 0, none⟩)), (5, .pointer (some ⟨b5, 0, none⟩)), (7, .pointer (some ⟨b7, 0, none⟩)), (1, vi (i0 : Int)), (11, .pointer (some ⟨b11, 0, none⟩)), (12, vi (i.1 : Int))]) (fun i => [.box b11 (bv (qN p by' i0 i.1)) 37, .box b9 a2.cs 32, .box b7 (bv p) 37, .box b5 (bv by') 33, .box b3 a.cs 32]) (fun _ => [a.mark.key.res]) (fun _ => []) (fun i => 8 - i.1) ⟨0, by omega⟩ ?_ fun i => ?_
  · exact Ent.mk' (by repeat' (first | trivial | exact rfl | apply And.intro)) (by repeat' (first | trivial | exact .head _ | exact .tail _ (.head _) | exact .tail _ (.tail _ (.head _)) | exact .tail _ (.tail _ (.tail _ (.head _))) | exact .tail _ (.tail _ (.tail _ (.tail _ (.head _)))) | exact .tail _ (.tail _ (.tail _ (.tail _ (.tail _ (.head _))))) | exact .tail _ (.tail _ (.tail _ (.tail _ (.tail _ (.tail _ (.head _)))))) | exact .tail _ (.tail _ (.tail _ (.tail _ (.tail _ (.tail _ (.tail _ (.head _))))))) | exact .tail _ (.tail _ (.tail _ (.tail _ (.tail _ (.tail _ (.tail _ (.tail _ (.head _)))))))) | exact .tail _ (.tail _ (.tail _ (.tail _ (.tail _ (.tail _ (.tail _ (.tail _ (.tail _ (.head _))))))))) | exact .tail _ (.tail _ (.tail _ (.tail _ (.tail _ (.tail _ (.tail _ (.tail _ (.tail _ (.tail _ (.head _)))))))))) | exact .tail _ (.tail _ (.tail _ (.tail _ (.tail _ (.tail _ (.tail _ (.tail _ (.tail _ (.tail _ (.tail _ (.head _))))))))))) | apply And.intro))
  obtain ⟨i, hi⟩ := i
  dsimp only
  have hql := qN_len p by' i0 i
  rw [hel] at hql
  refine sw_seq ?_
  refine sw_seq ?_
  refine sw_region ?_
  refine r_move (k := ?_)
  refine r_lss (k := ?_)
  refine sl_nil ?_
  refine sp_then ?_
  refine sw_cond rfl (fun h => ?_) (fun h => ?_)
  · have h := of_decide_eq_true h
    have hi8 : i < 8 := by omega
    have hat : (bv (qN p by' i0 i))[0 + (i0 + i) * 1]? = some (v8 ((qN p by' i0 i).getD (i0 + i) 0)) := by
      rw [Nat.zero_add, Nat.mul_one, bv_get _ _ (by omega), List.getD_eq_getElem?_getD, List.getElem?_eq_getElem (by omega)]; rfl
    have hbt : (bv by')[0 + i * 1]? = some (v8 (by'.getD i 0)) := by
      rw [Nat.zero_add, Nat.mul_one, bv_get _ _ (by omega), List.getD_eq_getElem?_getD, List.getElem?_eq_getElem (by omega)]; rfl
    refine sw_skip ?_
    refine sp_then ?_
    refine sw_seq ?_
    refine sw_block ?_
    
    refine sw_draw [(some 13, .box b11 (bv (qN p by' i0 i)) 37), (none, .box b5 (bv by') 33)] [] [0, 1, 2, 3, 4, 5, 6, 7, 8, 9, 10, 11, 12, 13] mix (by kernel_rfl) rfl ?_
    refine ra_first 0 [] [1, 2, 3, 4, 5, 6, 7, 8, 9, 10, 11, 12, 13] (hq := by exact q_move) (k := ?_)
    refine ra_first 1 [] [2, 3, 4, 5, 6, 7, 8, 9, 10, 11, 12, 13] (hq := by exact q_move) (k := ?_)
    refine ra_first 2 [] [3, 4, 5, 6, 7, 8, 9, 10, 11, 12, 13] (hq := by exact q_add64) (k := ?_)
    refine ra_first 3 [] [4, 5, 6, 7, 8, 9, 10, 11, 12, 13] (hq := by exact q_move) (k := ?_)
    refine ra_first 4 [] [5, 6, 7, 8, 9, 10, 11, 12, 13] (hq := by exact q_move) (k := ?_)
    refine ra_first 5 [] [6, 7, 8, 9, 10, 11, 12, 13] (hq := by exact q_add64) (k := ?_)
    refine ra_first 6 [] [7, 8, 9, 10, 11, 12, 13] (hq := by exact q_idx_arr (i := i0 + i) (by exact ta rfl) (by exact rfl) (by exact rfl) (by omega) (by omega) (by omega)) (k := ?_)
    refine ra_first 7 [(some 13, .box b11 (bv (qN p by' i0 i)) 37)] [8, 9, 10, 11, 12, 13] (hq := by exact q_load_one (by exact tz rfl) (by exact rfl) (.head _) hat) (k := ?_)
    refine ra_first 8 [] [9, 10, 11, 12, 13] (hq := by exact q_move) (k := ?_)
    refine ra_first 9 [] [10, 11, 12, 13] (hq := by exact q_idx_arr) (k := ?_)
    refine ra_first 10 [(none, .box b5 (bv by') 33)] [11, 12, 13] (hq := by exact q_load_one (by exact tz rfl) (by exact rfl) (.head _) hbt) (k := ?_)
    refine ra_first 11 [] [12, 13] (hq := by exact q_xor8) (k := ?_)
    refine ra_first 12 [] [13] (hq := by exact q_idx_arr (i := i0 + i) (by exact ta rfl) (by exact rfl) (by exact rfl) (by omega) (by omega) (by omega)) (k := ?_)
    refine ra1 (i := 13) [] (h := ?_)
    refine r_store1 (cs := bv (qN p by' i0 i)) (by exact tz rfl) (by exact rfl) (by exact rfl) (by exact rfl) rfl (by first | exact .hd | exact .tl (.hd) | exact .tl (.tl (.hd)) | exact .tl (.tl (.tl (.hd))) | exact .tl (.tl (.tl (.tl (.hd)))) | exact .tl (.tl (.tl (.tl (.tl (.hd))))) | exact .tl (.tl (.tl (.tl (.tl (.tl (.hd)))))) | exact .tl (.tl (.tl (.tl (.tl (.tl (.tl (.hd))))))) | exact .tl (.tl (.tl (.tl (.tl (.tl (.tl (.tl (.hd)))))))) | exact .tl (.tl (.tl (.tl (.tl (.tl (.tl (.tl (.tl (.hd))))))))) | exact .tl (.tl (.tl (.tl (.tl (.tl (.tl (.tl (.tl (.tl (.hd)))))))))) | exact .tl (.tl (.tl (.tl (.tl (.tl (.tl (.tl (.tl (.tl (.tl (.hd)))))))))))) (by simp [Nat.blt_eq, bv_len, hql]; omega) rfl ?_
    refine sl_nil ?_
    refine sp_nx (k := ?_)
    refine ra_done ?_
    refine sp_block ?_
    refine sp_then ?_
    refine sw_region ?_
    refine r_move (k := ?_)
    refine r_add64 (k := ?_)
    refine r_assign (k := ?_)
    refine sl_nil ?_
    refine sp_eqB (B' := [.box b11 (bv (qN p by' i0 (i + 1))) 37, .box b9 a2.cs 32, .box b7 (bv p) 37, .box b5 (bv by') 33, .box b3 a.cs 32]) (by rw [qN, bv_set, Nat.zero_add, Nat.mul_one]) ?_
    refine sp_loop (ι := { i : Nat // i ≤ 8 }) ⟨i + 1, by omega⟩ ?_ ?_
    · dsimp only; omega
    · exact Ent.mk' (by repeat' (first | trivial | exact rfl | apply And.intro)) (by repeat' (first | trivial | exact .head _ | exact .tail _ (.head _) | exact .tail _ (.tail _ (.head _)) | exact .tail _ (.tail _ (.tail _ (.head _))) | exact .tail _ (.tail _ (.tail _ (.tail _ (.head _)))) | exact .tail _ (.tail _ (.tail _ (.tail _ (.tail _ (.head _))))) | exact .tail _ (.tail _ (.tail _ (.tail _ (.tail _ (.tail _ (.head _)))))) | exact .tail _ (.tail _ (.tail _ (.tail _ (.tail _ (.tail _ (.tail _ (.head _))))))) | exact .tail _ (.tail _ (.tail _ (.tail _ (.tail _ (.tail _ (.tail _ (.tail _ (.head _)))))))) | exact .tail _ (.tail _ (.tail _ (.tail _ (.tail _ (.tail _ (.tail _ (.tail _ (.tail _ (.head _))))))))) | exact .tail _ (.tail _ (.tail _ (.tail _ (.tail _ (.tail _ (.tail _ (.tail _ (.tail _ (.tail _ (.head _)))))))))) | exact .tail _ (.tail _ (.tail _ (.tail _ (.tail _ (.tail _ (.tail _ (.tail _ (.tail _ (.tail _ (.tail _ (.head _))))))))))) | apply And.intro))
  have h := of_decide_eq_false h
  obtain rfl : i = 8 := by omega
  obtain ⟨q, hq⟩ : ∃ q, q = qN p by' i0 8 := ⟨_, rfl⟩
  have hqt := qN_take p by' i0 8
  have hqd := qN_drop p by' i0 8 8 (Nat.le_refl _)
  rw [← hq] at hql hqt hqd ⊢
  have hbq : (bv q).length = 256 := by rw [bv_len]; exact hql
  refine sw_exit ?_
  refine sp_then_exit ?_
  refine sp_loop_exit ?_
  refine sp_block_exit ?_
  refine sp_then ?_
  refine sw_seq ?_
  refine sw_region ?_
  refine r_load_all (cs := bv q) (by exact tz rfl) (by exact rfl) (by first | exact .head _ | exact .tail _ (.head _) | exact .tail _ (.tail _ (.head _)) | exact .tail _ (.tail _ (.tail _ (.head _))) | exact .tail _ (.tail _ (.tail _ (.tail _ (.head _)))) | exact .tail _ (.tail _ (.tail _ (.tail _ (.tail _ (.head _))))) | exact .tail _ (.tail _ (.tail _ (.tail _ (.tail _ (.tail _ (.head _)))))) | exact .tail _ (.tail _ (.tail _ (.tail _ (.tail _ (.tail _ (.tail _ (.head _))))))) | exact .tail _ (.tail _ (.tail _ (.tail _ (.tail _ (.tail _ (.tail _ (.tail _ (.head _)))))))) | exact .tail _ (.tail _ (.tail _ (.tail _ (.tail _ (.tail _ (.tail _ (.tail _ (.tail _ (.head _))))))))) | exact .tail _ (.tail _ (.tail _ (.tail _ (.tail _ (.tail _ (.tail _ (.tail _ (.tail _ (.tail _ (.head _)))))))))) | exact .tail _ (.tail _ (.tail _ (.tail _ (.tail _ (.tail _ (.tail _ (.tail _ (.tail _ (.tail _ (.tail _ (.head _)))))))))))) hbq (by exact rfl) ?_
  refine r_callF (c_dec q hql) (by exact rfl) (by exact rfl) (by exact rfl) (by simp) (by exact rfl) ?_
  rintro _ _ ⟨a3, rfl, hok3, hpure3, rfl⟩
  obtain ⟨e, heq⟩ : ∃ e : Int, e = (decP q).2 := ⟨_, rfl⟩
  have key : (e = 0 ∧ p = q ∧ sameV a3 a = true) ∨ (e = 50 ∧ ¬ p = q) := by
    rcases decP_or q with h0 | h50
    · left
      have hd : decP q = (a3.pure, 0) := by rw [hpure3, ← h0]
      obtain ⟨_, hpg⟩ := decP_page hql hd
      have hqp := back_page a a3 q i0 hi1 hpg hql (by rw [hqt, hpa]) (by rw [hqd, hpa])
      refine ⟨by rw [heq, h0], by rw [hpa, hqp], (sameV_iff _ _).2 ?_⟩
      rw [hqp, ← hpa, hdp] at hd
      exact (Prod.mk.inj hd).1.symm
    · right
      refine ⟨by rw [heq, h50], fun h => ?_⟩
      rw [← h, hdp] at h50
      exact absurd (Prod.mk.inj h50).2 (by decide)
  rw [← heq]
  refine r_move (k := ?_)
  refine r_ext (k := ?_)
  refine r_ext (k := ?_)
  refine r_alloc (by exact z32) (cs := zeroA.cs) (by kernel_rfl) (by exact rfl) fun b13 => ?_
  refine r_store_all (cs := zeroA.cs) (vs := a3.cs) (by exact tz rfl) (by exact rfl) (by exact rfl) (by first | exact .hd | exact .tl (.hd) | exact .tl (.tl (.hd)) | exact .tl (.tl (.tl (.hd))) | exact .tl (.tl (.tl (.tl (.hd)))) | exact .tl (.tl (.tl (.tl (.tl (.hd))))) | exact .tl (.tl (.tl (.tl (.tl (.tl (.hd)))))) | exact .tl (.tl (.tl (.tl (.tl (.tl (.tl (.hd))))))) | exact .tl (.tl (.tl (.tl (.tl (.tl (.tl (.tl (.hd)))))))) | exact .tl (.tl (.tl (.tl (.tl (.tl (.tl (.tl (.tl (.hd))))))))) | exact .tl (.tl (.tl (.tl (.tl (.tl (.tl (.tl (.tl (.tl (.hd)))))))))) | exact .tl (.tl (.tl (.tl (.tl (.tl (.tl (.tl (.tl (.tl (.tl (.hd)))))))))))) rfl rfl rfl rfl ?_
  refine r_assign (k := ?_)
  refine sl_nil ?_
  refine sp_then ?_
  refine sw_seq ?_
  refine sw_region ?_
  refine r_move (k := ?_)
  refine r_eql (k := ?_)
  refine r_load_all (cs := bv p) (by exact tz rfl) (by exact rfl) (by first | exact .head _ | exact .tail _ (.head _) | exact .tail _ (.tail _ (.head _)) | exact .tail _ (.tail _ (.tail _ (.head _))) | exact .tail _ (.tail _ (.tail _ (.tail _ (.head _)))) | exact .tail _ (.tail _ (.tail _ (.tail _ (.tail _ (.head _))))) | exact .tail _ (.tail _ (.tail _ (.tail _ (.tail _ (.tail _ (.head _)))))) | exact .tail _ (.tail _ (.tail _ (.tail _ (.tail _ (.tail _ (.tail _ (.head _))))))) | exact .tail _ (.tail _ (.tail _ (.tail _ (.tail _ (.tail _ (.tail _ (.tail _ (.head _)))))))) | exact .tail _ (.tail _ (.tail _ (.tail _ (.tail _ (.tail _ (.tail _ (.tail _ (.tail _ (.head _))))))))) | exact .tail _ (.tail _ (.tail _ (.tail _ (.tail _ (.tail _ (.tail _ (.tail _ (.tail _ (.tail _ (.head _)))))))))) | exact .tail _ (.tail _ (.tail _ (.tail _ (.tail _ (.tail _ (.tail _ (.tail _ (.tail _ (.tail _ (.tail _ (.head _)))))))))))) hbp (by exact rfl) ?_
  refine r_load_all (cs := bv q) (by exact tz rfl) (by exact rfl) (by first | exact .head _ | exact .tail _ (.head _) | exact .tail _ (.tail _ (.head _)) | exact .tail _ (.tail _ (.tail _ (.head _))) | exact .tail _ (.tail _ (.tail _ (.tail _ (.head _)))) | exact .tail _ (.tail _ (.tail _ (.tail _ (.tail _ (.head _))))) | exact .tail _ (.tail _ (.tail _ (.tail _ (.tail _ (.tail _ (.head _)))))) | exact .tail _ (.tail _ (.tail _ (.tail _ (.tail _ (.tail _ (.tail _ (.head _))))))) | exact .tail _ (.tail _ (.tail _ (.tail _ (.tail _ (.tail _ (.tail _ (.tail _ (.head _)))))))) | exact .tail _ (.tail _ (.tail _ (.tail _ (.tail _ (.tail _ (.tail _ (.tail _ (.tail _ (.head _))))))))) | exact .tail _ (.tail _ (.tail _ (.tail _ (.tail _ (.tail _ (.tail _ (.tail _ (.tail _ (.tail _ (.head _)))))))))) | exact .tail _ (.tail _ (.tail _ (.tail _ (.tail _ (.tail _ (.tail _ (.tail _ (.tail _ (.tail _ (.tail _ (.head _)))))))))))) hbq (by exact rfl) ?_
  refine r_eqagg (xs := (bv p).toArray) (ys := (bv q).toArray) (by exact rfl) (by exact rfl) (by kernel_rfl) (page_eq p q hel hql) (by exact rfl) ?_
  rcases key with ⟨rfl, hpq, hsame⟩ | ⟨rfl, hpq⟩
  · refine r_re (t := 84) (v' := vb true) rfl rfl ?_
    refine r_re (t := 87) (v' := vb true) rfl (by rw [hpq, beq_self_eq_true]) ?_
    refine r_eqlb' (k := ?_)
    refine r_move (k := ?_)
    refine r_re (t := 89) (v' := vb true) rfl rfl ?_
    refine gd_yes (k := ?_)
    refine r_move (k := ?_)
    refine gd_yes (k := ?_)
    refine r_neq (k := ?_)
    refine gd_yes (k := ?_)
    refine r_move (k := ?_)
    refine r_re (t := 92) (v' := vb false) rfl rfl ?_
    refine gd_yes (k := ?_)
    refine r_load_all (k := ?_)
    refine gd_yes (k := ?_)
    refine r_load_all (k := ?_)
    refine gd_yes (k := ?_)
    have hcs3 := c_rsame GW a3 a
    rw [hsame] at hcs3
    refine r_call1 hcs3 (by exact rfl) (by exact rfl) (by exact rfl) (by simp) (by exact rfl) ?_
    refine gd_yes (k := ?_)
    refine rd_pick_f (k := ?_)
    refine rd_pick_t (k := ?_)
    refine r_move (k := ?_)
    refine gd_yes (k := ?_)
    refine r_call1 c_wakes (by exact rfl) (by exact rfl) (by exact rfl) (by simp) (by exact rfl) ?_
    refine rd_pick_t (k := ?_)
    refine r_assign (k := ?_)
    refine sl_nil ?_
    refine sp_then ?_
    refine sw_ret ?_
    refine sp_retv rfl rfl (.tmp rfl) rfl rfl ⟨rfl, rfl, rfl⟩ (by simp) rfl (by simp)
  · refine r_re (t := 84) (v' := vb false) rfl rfl ?_
    refine r_re (t := 87) (v' := vb false) rfl (by rw [beq_eq_false_iff_ne.2 hpq]) ?_
    refine r_eqlb' (k := ?_)
    refine r_move (k := ?_)
    refine r_re (t := 89) (v' := vb true) rfl rfl ?_
    refine gd_yes (k := ?_)
    refine r_move (k := ?_)
    refine gd_yes (k := ?_)
    refine r_neq (k := ?_)
    refine gd_yes (k := ?_)
    refine r_move (k := ?_)
    refine r_re (t := 92) (v' := vb true) rfl rfl ?_
    refine gd_no (k := ?_)
    refine gd_no (k := ?_)
    refine gd_no (k := ?_)
    refine gd_yes (k := ?_)
    refine rd_pick_t (k := ?_)
    refine rd_pick_t (k := ?_)
    refine r_move (k := ?_)
    refine gd_yes (k := ?_)
    refine r_call1 c_wakes (by exact rfl) (by exact rfl) (by exact rfl) (by simp) (by exact rfl) ?_
    refine rd_pick_t (k := ?_)
    refine r_assign (k := ?_)
    refine sl_nil ?_
    refine sp_then ?_
    refine sw_ret ?_
    refine sp_retv rfl rfl (.tmp rfl) rfl rfl ⟨rfl, rfl, rfl⟩ (by simp) rfl (by simp)
end Go.Proofs.YtjahiohlekdhoaaDoor
