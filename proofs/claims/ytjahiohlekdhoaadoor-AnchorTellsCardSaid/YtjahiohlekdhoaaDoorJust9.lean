/-
  The walk of suturelaw09.AnchorJust: it tells true.
-/
import Derived.Test.YtjahiohlekdhoaaDoorWakes9
import Derived.Test.YtjahiohlekdhoaaDoorPure9
import Derived.Stop.BytesEq
namespace Go.Proofs.YtjahiohlekdhoaaDoor
open Go
set_option maxHeartbeats 4000000
set_option maxRecDepth 4000
attribute [local irreducible] SW SL SP RA Then FQ IQ LoopQ RQ AQ NX CutQ Exit.noGoto

theorem page_eq (xs ys : List UInt8) (hx : xs.length = 256) (hy : ys.length = 256) (w : World) : (Op.equalIn 10000 37 (.agg (bv xs).toArray) (.agg (bv ys).toArray)).run Tryd.prog w = .ok (xs == ys) w :=
  run_equalIn_bytes w 9998 37 5 256 (by kernel_rfl) (by kernel_rfl) (fun w => run_sizeOf (tz rfl) w) xs ys hx hy

/-- What Decode tells of a page. -/
def decP (p : List UInt8) : AncP × Int := decV (p.headD 0) p
theorem c_dec (p : List UInt8) (hp : p.length = 256) : Ctr Tryd.prog GW 16 [.agg (bv p).toArray] [] [] (retF fun v Φ' => ∃ a : AncV, v = .tuple #[a.v, vi (decP p).2] ∧ a.mark.key.ok ∧ a.pure = (decP p).1 ∧ Φ' = [a.mark.key.res]) := by
  cases p with
  | nil => cases hp
  | cons n l => exact c_decode n l hp
theorem decP_page {p : List UInt8} (hp : p.length = 256) {a : AncV} (h : decP p = (a.pure, 0)) : a.right = true ∧ a.page = p := by
  cases p with
  | nil => cases hp
  | cons n l => exact dec_page hp h
theorem page_decP (a : AncV) (h : a.right = true) : decP a.page = (a.pure, 0) := by
  have e := page_head a (right_key a h)
  have : a.page.headD 0 = 65 := by rw [e]; rfl
  unfold decP
  rw [this]
  exact page_dec a h
theorem decP_or (p : List UInt8) : (decP p).2 = 0 ∨ decP p = (AncP.zero, 50) := dec_or _ p
theorem right_tx (a : AncV) (h : a.right = true) : 1 ≤ (a.tx.toNat : Int) ∧ (a.tx.toNat : Int) ≤ 1073741824 := by
  have hf : a.fine = true := by
    unfold AncV.right at h
    split at h
    · exact (Bool.and_eq_true _ _ ▸ h).1
    · exact (Bool.and_eq_true _ _ ▸ h).1
  simp only [AncV.fine, Bool.and_eq_true, decide_eq_true_eq] at hf
  exact ⟨hf.1, hf.2.1⟩

theorem c_lawJust (p : List UInt8) (hp : p.length = 256) : Ctr Tryd.prog GW 4 [.agg (bv p).toArray] [] [] (ret1 (vb true)) := by
  have hbp : (bv p).length = 256 := by rw [bv_len]; exact hp
  refine Ctr.intro Tryd.func4 (by kernel_rfl) rfl Tryd.ntmps4 rfl rfl rfl fun w X => ?_
  refine sw_seq ?_
  refine sw_region ?_
  refine r_box (cs := bv p) (by exact rfl) rfl (by exact rfl) fun b1 => ?_
  refine r_assign (k := ?_)
  refine sl_nil ?_
  refine sp_then ?_
  refine sw_seq ?_
  refine sw_region ?_
  refine r_load_all (cs := bv p) (by exact tz rfl) (by exact rfl) (by first | exact .head _ | exact .tail _ (.head _) | exact .tail _ (.tail _ (.head _)) | exact .tail _ (.tail _ (.tail _ (.head _))) | exact .tail _ (.tail _ (.tail _ (.tail _ (.head _)))) | exact .tail _ (.tail _ (.tail _ (.tail _ (.tail _ (.head _))))) | exact .tail _ (.tail _ (.tail _ (.tail _ (.tail _ (.tail _ (.head _)))))) | exact .tail _ (.tail _ (.tail _ (.tail _ (.tail _ (.tail _ (.tail _ (.head _))))))) | exact .tail _ (.tail _ (.tail _ (.tail _ (.tail _ (.tail _ (.tail _ (.tail _ (.head _)))))))) | exact .tail _ (.tail _ (.tail _ (.tail _ (.tail _ (.tail _ (.tail _ (.tail _ (.tail _ (.head _))))))))) | exact .tail _ (.tail _ (.tail _ (.tail _ (.tail _ (.tail _ (.tail _ (.tail _ (.tail _ (.tail _ (.head _)))))))))) | exact .tail _ (.tail _ (.tail _ (.tail _ (.tail _ (.tail _ (.tail _ (.tail _ (.tail _ (.tail _ (.tail _ (.head _)))))))))))) hbp (by exact rfl) ?_
  refine r_callF (c_dec p hp) (by exact rfl) (by exact rfl) (by exact rfl) (by simp) (by exact rfl) ?_
  rintro _ _ ⟨a, rfl, hok, hpure, rfl⟩
  rcases decP_or p with h0 | h50
  · have hd : decP p = (a.pure, 0) := by rw [hpure, ← h0]
    obtain ⟨hr, hpg⟩ := decP_page hp hd
    rw [h0]
    refine r_move (k := ?_)
    refine r_ext (k := ?_)
    refine r_ext (k := ?_)
    refine r_alloc (by exact z32) (cs := zeroA.cs) (by kernel_rfl) (by exact rfl) fun b3 => ?_
    refine r_store_all (cs := zeroA.cs) (vs := a.cs) (by exact tz rfl) (by exact rfl) (by exact rfl) (by first | exact .hd | exact .tl (.hd) | exact .tl (.tl (.hd)) | exact .tl (.tl (.tl (.hd))) | exact .tl (.tl (.tl (.tl (.hd)))) | exact .tl (.tl (.tl (.tl (.tl (.hd))))) | exact .tl (.tl (.tl (.tl (.tl (.tl (.hd)))))) | exact .tl (.tl (.tl (.tl (.tl (.tl (.tl (.hd))))))) | exact .tl (.tl (.tl (.tl (.tl (.tl (.tl (.tl (.hd)))))))) | exact .tl (.tl (.tl (.tl (.tl (.tl (.tl (.tl (.tl (.hd))))))))) | exact .tl (.tl (.tl (.tl (.tl (.tl (.tl (.tl (.tl (.tl (.hd)))))))))) | exact .tl (.tl (.tl (.tl (.tl (.tl (.tl (.tl (.tl (.tl (.tl (.hd)))))))))))) rfl rfl rfl rfl ?_
    refine r_assign (k := ?_)
    refine sl_nil ?_
    refine sp_then ?_
    refine sw_seq ?_
    refine sw_seq ?_
    refine sw_region ?_
    refine r_move (k := ?_)
    refine r_neq (k := ?_)
    refine sl_nil ?_
    refine sp_then ?_
    refine swd_f (b := decide ((0 : Int) ≠ 0)) rfl rfl ?_
    refine sw_skip ?_
    refine sp_then ?_
    refine sw_seq ?_
    refine sw_region ?_
    refine r_load_all (k := ?_)
    have henc := c_encode a hok
    rw [show encV a = (p, 0) by unfold encV; rw [if_pos hr, hpg]] at henc
    refine r_call1 henc (by exact rfl) (by exact rfl) (by exact rfl) (by simp) (by exact rfl) ?_
    refine r_move (k := ?_)
    refine r_ext (k := ?_)
    refine r_ext (k := ?_)
    refine r_alloc (by exact z37) (cs := bv (zeros 256)) (by kernel_rfl) (by exact rfl) fun b5 => ?_
    refine r_store_all (cs := bv (zeros 256)) (vs := bv p) (by exact tz rfl) (by exact rfl) (by exact rfl) (by first | exact .hd | exact .tl (.hd) | exact .tl (.tl (.hd)) | exact .tl (.tl (.tl (.hd))) | exact .tl (.tl (.tl (.tl (.hd)))) | exact .tl (.tl (.tl (.tl (.tl (.hd))))) | exact .tl (.tl (.tl (.tl (.tl (.tl (.hd)))))) | exact .tl (.tl (.tl (.tl (.tl (.tl (.tl (.hd))))))) | exact .tl (.tl (.tl (.tl (.tl (.tl (.tl (.tl (.hd)))))))) | exact .tl (.tl (.tl (.tl (.tl (.tl (.tl (.tl (.tl (.hd))))))))) | exact .tl (.tl (.tl (.tl (.tl (.tl (.tl (.tl (.tl (.tl (.hd)))))))))) | exact .tl (.tl (.tl (.tl (.tl (.tl (.tl (.tl (.tl (.tl (.tl (.hd)))))))))))) rfl hbp (bv_one _) (by rw [bv_len]; rfl) ?_
    refine r_assign (k := ?_)
    refine sl_nil ?_
    refine sp_then ?_
    refine sw_seq ?_
    refine sw_region ?_
    refine r_move (k := ?_)
    refine r_eql (k := ?_)
    refine r_move (k := ?_)
    refine r_re (t := 31) (v' := vb true) rfl rfl ?_
    refine gd_yes (k := ?_)
    refine r_load_all (cs := bv p) (by exact tz rfl) (by exact rfl) (by first | exact .head _ | exact .tail _ (.head _) | exact .tail _ (.tail _ (.head _)) | exact .tail _ (.tail _ (.tail _ (.head _))) | exact .tail _ (.tail _ (.tail _ (.tail _ (.head _)))) | exact .tail _ (.tail _ (.tail _ (.tail _ (.tail _ (.head _))))) | exact .tail _ (.tail _ (.tail _ (.tail _ (.tail _ (.tail _ (.head _)))))) | exact .tail _ (.tail _ (.tail _ (.tail _ (.tail _ (.tail _ (.tail _ (.head _))))))) | exact .tail _ (.tail _ (.tail _ (.tail _ (.tail _ (.tail _ (.tail _ (.tail _ (.head _)))))))) | exact .tail _ (.tail _ (.tail _ (.tail _ (.tail _ (.tail _ (.tail _ (.tail _ (.tail _ (.head _))))))))) | exact .tail _ (.tail _ (.tail _ (.tail _ (.tail _ (.tail _ (.tail _ (.tail _ (.tail _ (.tail _ (.head _)))))))))) | exact .tail _ (.tail _ (.tail _ (.tail _ (.tail _ (.tail _ (.tail _ (.tail _ (.tail _ (.tail _ (.tail _ (.head _)))))))))))) hbp (by exact rfl) ?_
    refine gd_yes (k := ?_)
    refine r_load_all (cs := bv p) (by exact tz rfl) (by exact rfl) (by first | exact .head _ | exact .tail _ (.head _) | exact .tail _ (.tail _ (.head _)) | exact .tail _ (.tail _ (.tail _ (.head _))) | exact .tail _ (.tail _ (.tail _ (.tail _ (.head _)))) | exact .tail _ (.tail _ (.tail _ (.tail _ (.tail _ (.head _))))) | exact .tail _ (.tail _ (.tail _ (.tail _ (.tail _ (.tail _ (.head _)))))) | exact .tail _ (.tail _ (.tail _ (.tail _ (.tail _ (.tail _ (.tail _ (.head _))))))) | exact .tail _ (.tail _ (.tail _ (.tail _ (.tail _ (.tail _ (.tail _ (.tail _ (.head _)))))))) | exact .tail _ (.tail _ (.tail _ (.tail _ (.tail _ (.tail _ (.tail _ (.tail _ (.tail _ (.head _))))))))) | exact .tail _ (.tail _ (.tail _ (.tail _ (.tail _ (.tail _ (.tail _ (.tail _ (.tail _ (.tail _ (.head _)))))))))) | exact .tail _ (.tail _ (.tail _ (.tail _ (.tail _ (.tail _ (.tail _ (.tail _ (.tail _ (.tail _ (.tail _ (.head _)))))))))))) hbp (by exact rfl) ?_
    refine gd_yes (k := ?_)
    refine r_eqagg (xs := (bv p).toArray) (ys := (bv p).toArray) (by exact rfl) (by exact rfl) (by kernel_rfl) (page_eq p p hp hp) (by exact rfl) ?_
    refine r_re (t := 34) (v' := vb true) rfl (by rw [beq_self_eq_true]) ?_
    refine rd_pick_t (k := ?_)
    refine r_move (k := ?_)
    refine gd_yes (k := ?_)
    refine r_load_all (k := ?_)
    refine gd_yes (k := ?_)
    have hr1 := c_right GW a
    rw [hr] at hr1
    refine r_call1 hr1 (by exact rfl) (by exact rfl) (by exact rfl) (by simp) (by exact rfl) ?_
    refine rd_pick_t (k := ?_)
    refine r_move (k := ?_)
    refine gd_yes (k := ?_)
    refine r_fieldAddr (k := ?_)
    refine gd_yes (k := ?_)
    refine r_load_one (k := ?_)
    refine gd_yes (k := ?_)
    refine r_geq (k := ?_)
    refine rd_pick_t (k := ?_)
    refine r_move (k := ?_)
    refine r_re (t := 45) (v' := vb true) rfl (by rw [decide_eq_true (right_tx a hr).1]) ?_
    refine gd_yes (k := ?_)
    refine r_call1 c_wakes (by exact rfl) (by exact rfl) (by exact rfl) (by simp) (by exact rfl) ?_
    refine rd_pick_t (k := ?_)
    refine r_assign (k := ?_)
    refine sl_nil ?_
    refine sp_then ?_
    refine sw_ret ?_
    refine sp_retv rfl rfl (.tmp rfl) rfl rfl ⟨rfl, rfl, rfl⟩ (by simp) rfl (by simp)
  · have hz : sameV a zeroA = true := (sameV_iff _ _).2 (by rw [hpure, h50]; rfl)
    have hcs := c_rsame GW a zeroA
    rw [hz] at hcs
    rw [h50]
    refine r_move (k := ?_)
    refine r_ext (k := ?_)
    refine r_ext (k := ?_)
    refine r_alloc (by exact z32) (cs := zeroA.cs) (by kernel_rfl) (by exact rfl) fun b3 => ?_
    refine r_store_all (cs := zeroA.cs) (vs := a.cs) (by exact tz rfl) (by exact rfl) (by exact rfl) (by first | exact .hd | exact .tl (.hd) | exact .tl (.tl (.hd)) | exact .tl (.tl (.tl (.hd))) | exact .tl (.tl (.tl (.tl (.hd)))) | exact .tl (.tl (.tl (.tl (.tl (.hd))))) | exact .tl (.tl (.tl (.tl (.tl (.tl (.hd)))))) | exact .tl (.tl (.tl (.tl (.tl (.tl (.tl (.hd))))))) | exact .tl (.tl (.tl (.tl (.tl (.tl (.tl (.tl (.hd)))))))) | exact .tl (.tl (.tl (.tl (.tl (.tl (.tl (.tl (.tl (.hd))))))))) | exact .tl (.tl (.tl (.tl (.tl (.tl (.tl (.tl (.tl (.tl (.hd)))))))))) | exact .tl (.tl (.tl (.tl (.tl (.tl (.tl (.tl (.tl (.tl (.tl (.hd)))))))))))) rfl rfl rfl rfl ?_
    refine r_assign (k := ?_)
    refine sl_nil ?_
    refine sp_then ?_
    refine sw_seq ?_
    refine sw_seq ?_
    refine sw_region ?_
    refine r_move (k := ?_)
    refine r_neq (k := ?_)
    refine sl_nil ?_
    refine sp_then ?_
    refine swd_t (b := decide ((50 : Int) ≠ 0)) rfl rfl ?_
    refine sw_seq ?_
    refine sw_region ?_
    refine r_move (k := ?_)
    refine r_eql (k := ?_)
    refine r_move (k := ?_)
    refine r_re (t := 16) (v' := vb true) rfl rfl ?_
    refine gd_yes (k := ?_)
    refine r_load_all (k := ?_)
    refine gd_yes (k := ?_)
    refine r_buildP zeroA.cs (parts := []) (by exact rfl) (by kernel_rfl) (by exact rfl) ?_
    refine f_have (φ := BS.nil.res) (fun V w hw => nil_res) ?_
    refine gd_yes (k := ?_)
    refine r_call1 hcs (by exact rfl) (by exact rfl) (by exact rfl) (PhAll.all (by repeat' (first | trivial | exact .head _ | exact .tail _ (.head _) | exact .tail _ (.tail _ (.head _)) | exact .tail _ (.tail _ (.tail _ (.head _))) | exact .tail _ (.tail _ (.tail _ (.tail _ (.head _)))) | exact .tail _ (.tail _ (.tail _ (.tail _ (.tail _ (.head _))))) | exact .tail _ (.tail _ (.tail _ (.tail _ (.tail _ (.tail _ (.head _)))))) | exact .tail _ (.tail _ (.tail _ (.tail _ (.tail _ (.tail _ (.tail _ (.head _))))))) | exact .tail _ (.tail _ (.tail _ (.tail _ (.tail _ (.tail _ (.tail _ (.tail _ (.head _)))))))) | exact .tail _ (.tail _ (.tail _ (.tail _ (.tail _ (.tail _ (.tail _ (.tail _ (.tail _ (.head _))))))))) | exact .tail _ (.tail _ (.tail _ (.tail _ (.tail _ (.tail _ (.tail _ (.tail _ (.tail _ (.tail _ (.head _)))))))))) | exact .tail _ (.tail _ (.tail _ (.tail _ (.tail _ (.tail _ (.tail _ (.tail _ (.tail _ (.tail _ (.tail _ (.head _))))))))))) | apply And.intro))) (by exact rfl) ?_
    refine rd_pick_t (k := ?_)
    refine r_move (k := ?_)
    refine gd_yes (k := ?_)
    refine r_call1 c_wakes (by exact rfl) (by exact rfl) (by exact rfl) (by simp) (by exact rfl) ?_
    refine rd_pick_t (k := ?_)
    refine r_assign (k := ?_)
    refine sl_nil ?_
    refine sp_then ?_
    refine sw_ret ?_
    refine sp_then_ret ?_
    refine sp_retv rfl rfl (.tmp rfl) rfl rfl ⟨rfl, rfl, rfl⟩ (by simp) rfl (by simp)
end Go.Proofs.YtjahiohlekdhoaaDoor
