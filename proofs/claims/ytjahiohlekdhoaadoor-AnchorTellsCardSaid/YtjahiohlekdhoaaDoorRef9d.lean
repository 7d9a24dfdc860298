/-
  The walk of the document's Decode: it tells what Decode tells.
-/
import Derived.Test.YtjahiohlekdhoaaDoorRef9e
import Derived.Test.YtjahiohlekdhoaaDoorJust9
namespace Go.Proofs.YtjahiohlekdhoaaDoor
open Go
set_option maxHeartbeats 4000000
set_option maxRecDepth 4000
attribute [local irreducible] SW SL SP RA Then FQ IQ LoopQ RQ AQ NX CutQ Exit.noGoto

theorem le4_inj {x y : UInt32} (h : le 4 x.toUInt64 = le 4 y.toUInt64) : x = y := by rw [← of_le4 x, h, of_le4]
theorem le2_inj {x y : UInt16} (h : le 2 x.toUInt64 = le 2 y.toUInt64) : x = y := by rw [← of_le2 x, h, of_le2]
theorem le1_inj {x y : UInt8} (h : le 1 x.toUInt64 = le 1 y.toUInt64) : x = y := by rw [← of_le1 x, h, of_le1]
theorem nine_inj {a b : AncV} (h : a.nine = b.nine) (hk : a.mark.key.xs = b.mark.key.xs) : a.pure = b.pure := by
  unfold AncV.nine at h
  obtain ⟨h1, h⟩ := List.append_inj h (by simp [le_length])
  obtain ⟨h2, h⟩ := List.append_inj h (by simp [le_length])
  obtain ⟨h3, h⟩ := List.append_inj h (by simp [bytes_len])
  obtain ⟨h4, h⟩ := List.append_inj h (by simp [le_length])
  obtain ⟨h5, h⟩ := List.append_inj h (by simp [le_length])
  obtain ⟨h6, h⟩ := List.append_inj h (by simp [le_length])
  obtain ⟨h7, h⟩ := List.append_inj h (by simp [le_length])
  obtain ⟨h8, h9⟩ := List.append_inj h (by simp [le_length])
  have hr : a.root = b.root := by
    have e1 := bytes_ptake a.root []
    rw [h3, bytes_ptake b.root []] at e1
    exact e1.symm
  simp only [AncV.pure, le4_inj h1, le2_inj h2, hr, le4_inj h4, le1_inj h5, le4_inj h6, le1_inj h7, le1_inj h8, le4_inj h9, hk]
theorem nine_len (a : AncV) : a.nine.length = 38 := by
  have := congrArg List.length (head_nine a)
  rw [head_len] at this
  simpa using this.symm

/-- What a page's pieces tell where it is decoded. -/
theorem ref_ok {p : List UInt8} {a : AncV} (h : a.right = true) (hp : a.page = p) (P : Pieces (p.drop 1)) {m : UInt8} {r : List UInt8} (hz : P.z = m :: r) (ba : Option Addr) (cap : Nat) :
    (takeB m r 8).2.2 = 0 ∧ (P.anc ⟨ba, cap, (takeB m r 8).1⟩).pure = a.pure := by
  have hk := right_key a h
  have hq : p.drop 1 = a.nine ++ (UInt8.ofNat a.mark.key.xs.length :: (a.mark.key.xs ++ (zeros (208 - a.mark.key.xs.length) ++ le 8 (sum (padTo 248 a.body))))) := by
    rw [← hp, page_head a hk]; rfl
  have hn := P.nine ⟨ba, cap, (takeB m r 8).1⟩
  replace hn := hn.trans hq
  obtain ⟨h1, h2⟩ := List.append_inj hn (by rw [nine_len, nine_len])
  rw [hz] at h2
  obtain ⟨hm, hr⟩ := List.cons.inj h2
  have hkn : (UInt8.ofNat a.mark.key.xs.length).toNat = a.mark.key.xs.length := by rw [UInt8.toNat_ofNat']; omega
  have htb : takeB m r 8 = (a.mark.key.xs, zeros (208 - a.mark.key.xs.length) ++ le 8 (sum (padTo 248 a.body)), 0) := by
    rw [hm, hr]
    unfold takeB
    rw [hkn, if_neg (by simp only [List.length_append]; omega), if_neg (by omega), List.take_left' rfl, List.drop_left' rfl]
  exact ⟨by rw [htb], nine_inj h1 (by rw [htb]; rfl)⟩
theorem decP_zero {p : List UInt8} (hp : p.length = 256) (h : ∀ a : AncV, a.right = true → a.page = p → False) : decP p = (AncP.zero, 50) := by
  rcases decP_or p with h0 | h50
  · exfalso
    have hd : decP p = (((decP p).1.withKey ⟨none, 0, (decP p).1.key⟩).pure, 0) := by
      rw [← h0]; rfl
    obtain ⟨h1, h2⟩ := decP_page hp hd
    exact h _ h1 h2
  · exact h50

theorem c_r9dec (p : List UInt8) (hp : p.length = 256) : Ctr Tryd.prog GW 21 [.agg (bv p).toArray] [] [] (retF fun v Φ' => ∃ a : AncV, v = .tuple #[a.v, vi (decP p).2] ∧ a.mark.key.ok ∧ a.pure = (decP p).1 ∧ Φ' = [a.mark.key.res]) := by
  have hbp : (bv p).length = 256 := by rw [bv_len]; exact hp
  refine Ctr.intro Tryd.func21 (by kernel_rfl) rfl Tryd.ntmps21 rfl rfl rfl fun w X => ?_
  refine sw_seq ?_
  refine sw_region ?_
  refine r_box (cs := bv p) (by exact rfl) rfl (by exact rfl) fun b1 => ?_
  refine o_freeze ?_
  refine r_alloc (by exact z32) (cs := zeroA.cs) (by kernel_rfl) (by exact rfl) fun b2 => ?_
  refine r_assign (k := ?_)
  refine sl_nil ?_
  refine sp_then ?_
  refine sw_seq ?_
  refine sw_region ?_
  refine r_alloc (by exact z32) (cs := zeroA.cs) (by kernel_rfl) (by exact rfl) fun b4 => ?_
  refine sl_nil ?_
  refine sp_then ?_
  refine sw_seq ?_
  refine sw_region ?_
  refine r_cut_arr (l := 1) (h := 256) (len := 256) (by exact ta rfl) (by exact rfl) ⟨_, rfl⟩ rfl (by omega) (by omega) (by omega) (by exact rfl) ?_
  refine r_re (t := 29) (v' := (cutP b1 p 1 256).v) rfl (cutP_v b1 p hp 1 256 (by omega)).symm ?_
  refine f_have (φ := (cutP b1 p 1 256).res) (fun V w hw => cutP_res (hw _ (by first | exact .head _ | exact .tail _ (.head _) | exact .tail _ (.tail _ (.head _)) | exact .tail _ (.tail _ (.tail _ (.head _))) | exact .tail _ (.tail _ (.tail _ (.tail _ (.head _)))) | exact .tail _ (.tail _ (.tail _ (.tail _ (.tail _ (.head _))))) | exact .tail _ (.tail _ (.tail _ (.tail _ (.tail _ (.tail _ (.head _)))))) | exact .tail _ (.tail _ (.tail _ (.tail _ (.tail _ (.tail _ (.tail _ (.head _))))))) | exact .tail _ (.tail _ (.tail _ (.tail _ (.tail _ (.tail _ (.tail _ (.tail _ (.head _)))))))) | exact .tail _ (.tail _ (.tail _ (.tail _ (.tail _ (.tail _ (.tail _ (.tail _ (.tail _ (.head _))))))))) | exact .tail _ (.tail _ (.tail _ (.tail _ (.tail _ (.tail _ (.tail _ (.tail _ (.tail _ (.tail _ (.head _)))))))))) | exact .tail _ (.tail _ (.tail _ (.tail _ (.tail _ (.tail _ (.tail _ (.tail _ (.tail _ (.tail _ (.tail _ (.head _)))))))))))))) ?_
  have hs0 := cutP_ok b1 p hp 1 256 (by omega)
  have hx0 : (cutP b1 p 1 256).xs = p.drop 1 := by
    show (p.drop 1).take 255 = p.drop 1
    exact List.take_of_length_le (by simp [hp])
  obtain ⟨P⟩ := pieces (p.drop 1) (by simp [hp])
  have hzl : P.z.length = 217 := by
    have := congrArg List.length P.eq
    simp only [List.length_append, P.ht, P.hs, P.hr, P.hc, P.hl, P.hb, P.ho, P.hd, P.hi, List.length_drop, hp] at this
    omega
  rw [P.eq] at hx0
  obtain ⟨s0, hs0e⟩ : ∃ s, s = cutP b1 p 1 256 := ⟨_, rfl⟩
  rw [← hs0e] at hs0 hx0 ⊢
  refine r_callF (c_r2take GW s0 hs0 4 (by decide) (by decide) (by rw [hx0]; simp [P.ht])) (by exact rfl) (by exact rfl) (by exact rfl) (by simp) (by exact rfl) ?_
  rintro _ _ ⟨s1, rfl, hs1, hx1, rfl⟩
  rw [hx0, List.drop_left' P.ht] at hx1
  rw [hx0, List.take_left' P.ht]
  refine r_move (k := ?_)
  refine r_ext (k := ?_)
  refine r_ext (k := ?_)
  refine r_ext (k := ?_)
  refine r_assign (k := ?_)
  refine r_assign (k := ?_)
  refine r_assign (k := ?_)
  refine sl_nil ?_
  refine sp_then ?_
  refine sw_seq ?_
  refine sw_region ?_
  refine r_move (k := ?_)
  refine r_callF (c_r2take GW s1 hs1 2 (by decide) (by decide) (by rw [hx1]; simp [P.hs])) (by exact rfl) (by exact rfl) (by exact rfl) (by simp) (by exact rfl) ?_
  rintro _ _ ⟨s2, rfl, hs2, hx2, rfl⟩
  rw [hx1, List.drop_left' P.hs] at hx2
  rw [hx1, List.take_left' P.hs]
  refine r_move (k := ?_)
  refine r_ext (k := ?_)
  refine r_ext (k := ?_)
  refine r_ext (k := ?_)
  refine r_assign (k := ?_)
  refine r_assign (k := ?_)
  refine r_assign (k := ?_)
  refine sl_nil ?_
  refine sp_then ?_
  refine sw_seq ?_
  refine sw_region ?_
  refine r_move (k := ?_)
  refine r_callF (c_r5take s2 hs2 (by rw [hx2]; simp [P.hr])) (by exact rfl) (by exact rfl) (by exact rfl) (by simp) (by exact rfl) ?_
  rintro _ _ ⟨s3, rfl, hs3, hx3, rfl⟩
  rw [hx2, List.drop_left' P.hr] at hx3
  rw [hx2, ptake_app _ _ P.hr]
  refine r_move (k := ?_)
  refine r_ext (k := ?_)
  refine r_ext (k := ?_)
  refine r_ext (k := ?_)
  refine r_alloc (by exact z27) (cs := PtrV.none.cs) (by exact rfl) (by exact rfl) fun b10 => ?_
  refine r_store_all (cs := PtrV.none.cs) (vs := (ptake P.r).cs) (by exact tz rfl) (by exact rfl) (by exact rfl) (by first | exact .hd | exact .tl (.hd) | exact .tl (.tl (.hd)) | exact .tl (.tl (.tl (.hd))) | exact .tl (.tl (.tl (.tl (.hd)))) | exact .tl (.tl (.tl (.tl (.tl (.hd))))) | exact .tl (.tl (.tl (.tl (.tl (.tl (.hd)))))) | exact .tl (.tl (.tl (.tl (.tl (.tl (.tl (.hd))))))) | exact .tl (.tl (.tl (.tl (.tl (.tl (.tl (.tl (.hd)))))))) | exact .tl (.tl (.tl (.tl (.tl (.tl (.tl (.tl (.tl (.hd))))))))) | exact .tl (.tl (.tl (.tl (.tl (.tl (.tl (.tl (.tl (.tl (.hd)))))))))) | exact .tl (.tl (.tl (.tl (.tl (.tl (.tl (.tl (.tl (.tl (.tl (.hd)))))))))))) rfl rfl rfl rfl ?_
  refine r_assign (k := ?_)
  refine r_assign (k := ?_)
  refine sl_nil ?_
  refine sp_then ?_
  refine sw_seq ?_
  refine sw_region ?_
  refine r_move (k := ?_)
  refine r_callF (c_r2take GW s3 hs3 4 (by decide) (by decide) (by rw [hx3]; simp [P.hc])) (by exact rfl) (by exact rfl) (by exact rfl) (by simp) (by exact rfl) ?_
  rintro _ _ ⟨s4, rfl, hs4, hx4, rfl⟩
  rw [hx3, List.drop_left' P.hc] at hx4
  rw [hx3, List.take_left' P.hc]
  refine r_move (k := ?_)
  refine r_ext (k := ?_)
  refine r_ext (k := ?_)
  refine r_ext (k := ?_)
  refine r_assign (k := ?_)
  refine r_assign (k := ?_)
  refine r_assign (k := ?_)
  refine sl_nil ?_
  refine sp_then ?_
  refine sw_seq ?_
  refine sw_region ?_
  refine r_move (k := ?_)
  refine r_callF (c_r2take GW s4 hs4 1 (by decide) (by decide) (by rw [hx4]; simp [P.hl])) (by exact rfl) (by exact rfl) (by exact rfl) (by simp) (by exact rfl) ?_
  rintro _ _ ⟨s5, rfl, hs5, hx5, rfl⟩
  rw [hx4, List.drop_left' P.hl] at hx5
  rw [hx4, List.take_left' P.hl]
  refine r_move (k := ?_)
  refine r_ext (k := ?_)
  refine r_ext (k := ?_)
  refine r_ext (k := ?_)
  refine r_assign (k := ?_)
  refine r_assign (k := ?_)
  refine r_assign (k := ?_)
  refine sl_nil ?_
  refine sp_then ?_
  refine sw_seq ?_
  refine sw_region ?_
  refine r_move (k := ?_)
  refine r_callF (c_r2take GW s5 hs5 4 (by decide) (by decide) (by rw [hx5]; simp [P.hb])) (by exact rfl) (by exact rfl) (by exact rfl) (by simp) (by exact rfl) ?_
  rintro _ _ ⟨s6, rfl, hs6, hx6, rfl⟩
  rw [hx5, List.drop_left' P.hb] at hx6
  rw [hx5, List.take_left' P.hb]
  refine r_move (k := ?_)
  refine r_ext (k := ?_)
  refine r_ext (k := ?_)
  refine r_ext (k := ?_)
  refine r_assign (k := ?_)
  refine r_assign (k := ?_)
  refine r_assign (k := ?_)
  refine sl_nil ?_
  refine sp_then ?_
  refine sw_seq ?_
  refine sw_region ?_
  refine r_move (k := ?_)
  refine r_callF (c_r2take GW s6 hs6 1 (by decide) (by decide) (by rw [hx6]; simp [P.ho])) (by exact rfl) (by exact rfl) (by exact rfl) (by simp) (by exact rfl) ?_
  rintro _ _ ⟨s7, rfl, hs7, hx7, rfl⟩
  rw [hx6, List.drop_left' P.ho] at hx7
  rw [hx6, List.take_left' P.ho]
  refine r_move (k := ?_)
  refine r_ext (k := ?_)
  refine r_ext (k := ?_)
  refine r_ext (k := ?_)
  refine r_assign (k := ?_)
  refine r_assign (k := ?_)
  refine r_assign (k := ?_)
  refine sl_nil ?_
  refine sp_then ?_
  refine sw_seq ?_
  refine sw_region ?_
  refine r_move (k := ?_)
  refine r_callF (c_r2take GW s7 hs7 1 (by decide) (by decide) (by rw [hx7]; simp [P.hd])) (by exact rfl) (by exact rfl) (by exact rfl) (by simp) (by exact rfl) ?_
  rintro _ _ ⟨s8, rfl, hs8, hx8, rfl⟩
  rw [hx7, List.drop_left' P.hd] at hx8
  rw [hx7, List.take_left' P.hd]
  refine r_move (k := ?_)
  refine r_ext (k := ?_)
  refine r_ext (k := ?_)
  refine r_ext (k := ?_)
  refine r_assign (k := ?_)
  refine r_assign (k := ?_)
  refine r_assign (k := ?_)
  refine sl_nil ?_
  refine sp_then ?_
  refine sw_seq ?_
  refine sw_region ?_
  refine r_move (k := ?_)
  refine r_callF (c_r2take GW s8 hs8 4 (by decide) (by decide) (by rw [hx8]; simp [P.hi])) (by exact rfl) (by exact rfl) (by exact rfl) (by simp) (by exact rfl) ?_
  rintro _ _ ⟨s9, rfl, hs9, hx9, rfl⟩
  rw [hx8, List.drop_left' P.hi] at hx9
  rw [hx8, List.take_left' P.hi]
  refine r_move (k := ?_)
  refine r_ext (k := ?_)
  refine r_ext (k := ?_)
  refine r_ext (k := ?_)
  refine r_assign (k := ?_)
  refine r_assign (k := ?_)
  refine r_assign (k := ?_)
  refine sl_nil ?_
  refine sp_then ?_
  refine sw_seq ?_
  refine sw_region ?_
  refine r_move (k := ?_)
  obtain ⟨m, r, hmr⟩ : ∃ m r, P.z = m :: r := by
    cases hz : P.z with
    | nil => rw [hz] at hzl; cases hzl
    | cons m r => exact ⟨m, r, rfl⟩
  have hrl : r.length = 216 := by rw [hmr] at hzl; simpa using hzl
  refine r_callF (c_r2takeBytes GW s9 hs9 m r (by rw [hx9, hmr]) (by omega) 8) (by exact rfl) (by exact rfl) (by exact rfl) (by simp) (by exact rfl) ?_
  rintro _ _ ⟨kb, rb, rfl, hk, hr, hkx, hrx, rfl⟩
  refine f_set [kb.res, Res.mem (some ⟨b1, 0, none⟩) (bv p)] (fun V w hw φ hφ => hw φ (by simp at hφ ⊢; rcases hφ with rfl | rfl <;> simp)) ?_
  refine r_move (k := ?_)
  refine r_ext (k := ?_)
  refine r_ext (k := ?_)
  refine r_ext (k := ?_)
  refine r_assign (k := ?_)
  refine r_assign (k := ?_)
  refine r_assign (k := ?_)
  refine sl_nil ?_
  refine sp_then ?_
  refine sw_seq ?_
  refine sw_seq ?_
  refine sw_region ?_
  refine r_move (k := ?_)
  refine r_neq (k := ?_)
  refine sl_nil ?_
  refine sp_then ?_
  refine sw_cond rfl (fun h => ?_) (fun h => ?_)
  · have h := of_decide_eq_true h
    have hz : decP p = (AncP.zero, 50) := decP_zero hp fun a h1 h2 => h (ref_ok h1 h2 P hmr none 0).1
    rw [hz]
    refine sw_seq ?_
    refine sw_region ?_
    refine r_load_all (k := ?_)
    refine r_store_all (k := ?_)
    refine r_assign (k := ?_)
    refine sl_nil ?_
    refine sp_then ?_
    refine sw_ret ?_
    refine sp_then_ret ?_
    refine sp_of_sl (fun h => f_have (φ := BS.nil.res) (fun V w hw => nil_res) h) ?_
    refine sp_ret2 rfl rfl (.agg (cs := zeroA.cs) rfl (tz rfl) rfl (.tail _ (.tail _ (.head _)))) (.tmp rfl) rfl rfl ⟨rfl, zeroA, rfl, ⟨Nat.le_refl _, Nat.zero_le _⟩, rfl, rfl⟩ (by simp) rfl (by simp; exact .inl rfl)
  have h := of_decide_eq_false h
  obtain ⟨A, hA⟩ : ∃ A : AncV, A = P.anc kb := ⟨_, rfl⟩
  have hAk : A.mark.key = kb := by rw [hA]; rfl
  have hAok : A.mark.key.ok := by rw [hAk]; exact hk
  have hAp : ∀ a : AncV, a.right = true → a.page = p → A.pure = a.pure := fun a h1 h2 => by
    have := (ref_ok h1 h2 P hmr kb.ba kb.cap).2
    rw [← hkx] at this
    rw [hA]; exact this
  refine sw_skip ?_
  refine sp_then ?_
  refine sw_seq ?_
  refine sw_region ?_
  refine r_move (k := ?_)
  refine r_cv_64_32 (k := ?_)
  refine r_move (k := ?_)
  refine r_cv_64_16 (k := ?_)
  refine r_load_all (k := ?_)
  refine r_move (k := ?_)
  refine r_cv_64_32 (k := ?_)
  refine r_move (k := ?_)
  refine r_cv_64_8 (k := ?_)
  refine r_move (k := ?_)
  refine r_cv_64_32 (k := ?_)
  refine r_move (k := ?_)
  refine r_cv_64_8 (k := ?_)
  refine r_move (k := ?_)
  refine r_cv_64_8 (k := ?_)
  refine r_move (k := ?_)
  refine r_cv_64_32 (k := ?_)
  refine r_move (k := ?_)
  refine r_buildP A.mark.cs (parts := [(0, .tmp 103), (1, .tmp 105), (2, .tmp 107), (3, .tmp 108)]) (by exact rfl) (by rw [hA]; kernel_rfl) (by exact rfl) ?_
  refine r_buildP A.cs (parts := [(0, .tmp 92), (1, .tmp 94), (2, .tmp 95), (3, .tmp 97), (4, .tmp 99), (5, .tmp 101), (6, .tmp 109)]) (by rw [hA]; rfl) (by rw [hA]; kernel_rfl) (by exact rfl) ?_
  refine r_store_all (cs := zeroA.cs) (vs := A.cs) (by exact tz rfl) (by exact rfl) (by exact rfl) (by first | exact .hd | exact .tl (.hd) | exact .tl (.tl (.hd)) | exact .tl (.tl (.tl (.hd))) | exact .tl (.tl (.tl (.tl (.hd)))) | exact .tl (.tl (.tl (.tl (.tl (.hd))))) | exact .tl (.tl (.tl (.tl (.tl (.tl (.hd)))))) | exact .tl (.tl (.tl (.tl (.tl (.tl (.tl (.hd))))))) | exact .tl (.tl (.tl (.tl (.tl (.tl (.tl (.tl (.hd)))))))) | exact .tl (.tl (.tl (.tl (.tl (.tl (.tl (.tl (.tl (.hd))))))))) | exact .tl (.tl (.tl (.tl (.tl (.tl (.tl (.tl (.tl (.tl (.hd)))))))))) | exact .tl (.tl (.tl (.tl (.tl (.tl (.tl (.tl (.tl (.tl (.tl (.hd)))))))))))) rfl rfl rfl rfl ?_
  have henc := c_r9encode A hAok
  rw [hAk] at henc
  refine sl_nil ?_
  refine sp_then ?_
  refine sw_seq ?_
  refine sw_region ?_
  refine r_load_all (k := ?_)
  refine r_call1 henc (by exact rfl) (by exact rfl) (by exact rfl) (by simp) (by exact rfl) ?_
  obtain ⟨q, hq⟩ : ∃ q, q = (encV A).1 := ⟨_, rfl⟩
  have hql : q.length = 256 := by
    rw [hq]; unfold encV; split
    · exact page_len _
    · simp [zeros]
  have hbq : (bv q).length = 256 := by rw [bv_len]; exact hql
  rw [← hq]
  refine r_move (k := ?_)
  refine r_ext (k := ?_)
  refine r_ext (k := ?_)
  refine r_alloc (by exact z37) (cs := bv (zeros 256)) (by kernel_rfl) (by exact rfl) fun b27 => ?_
  refine r_store_all (cs := bv (zeros 256)) (vs := bv q) (by exact tz rfl) (by exact rfl) (by exact rfl) (by first | exact .hd | exact .tl (.hd) | exact .tl (.tl (.hd)) | exact .tl (.tl (.tl (.hd))) | exact .tl (.tl (.tl (.tl (.hd)))) | exact .tl (.tl (.tl (.tl (.tl (.hd))))) | exact .tl (.tl (.tl (.tl (.tl (.tl (.hd)))))) | exact .tl (.tl (.tl (.tl (.tl (.tl (.tl (.hd))))))) | exact .tl (.tl (.tl (.tl (.tl (.tl (.tl (.tl (.hd)))))))) | exact .tl (.tl (.tl (.tl (.tl (.tl (.tl (.tl (.tl (.hd))))))))) | exact .tl (.tl (.tl (.tl (.tl (.tl (.tl (.tl (.tl (.tl (.hd)))))))))) | exact .tl (.tl (.tl (.tl (.tl (.tl (.tl (.tl (.tl (.tl (.tl (.hd)))))))))))) rfl hbq (bv_one _) rfl ?_
  cases hr' : A.right with
  | false =>
    have he : encV A = (zeros 256, 2) := by unfold encV; rw [hr']; rfl
    have hz : decP p = (AncP.zero, 50) := decP_zero hp fun a h1 h2 => by
      have := right_pure (hAp a h1 h2)
      rw [hr', h1] at this; cases this
    rw [hz, he]
    dsimp only
    refine r_assign (k := ?_)
    refine sl_nil ?_
    refine sp_then ?_
    refine sw_seq ?_
    refine sw_seq ?_
    refine sw_region ?_
    refine r_move (k := ?_)
    refine r_neq (k := ?_)
    refine r_move (k := ?_)
    refine r_re (t := 118) (v' := vb true) rfl rfl ?_
    refine gd_no (k := ?_)
    refine gd_no (k := ?_)
    refine gd_no (k := ?_)
    refine rd_pick_t (k := ?_)
    refine sl_nil ?_
    refine sp_then ?_
    refine swd_t (h := ?_)
    refine sw_seq ?_
    refine sw_region ?_
    refine r_buildP zeroA.cs (parts := []) (by exact rfl) (by kernel_rfl) (by exact rfl) ?_
    refine r_store_all (cs := zeroA.cs) (vs := zeroA.cs) (by exact tz rfl) (by exact rfl) (by exact rfl) (by first | exact .hd | exact .tl (.hd) | exact .tl (.tl (.hd)) | exact .tl (.tl (.tl (.hd))) | exact .tl (.tl (.tl (.tl (.hd)))) | exact .tl (.tl (.tl (.tl (.tl (.hd))))) | exact .tl (.tl (.tl (.tl (.tl (.tl (.hd)))))) | exact .tl (.tl (.tl (.tl (.tl (.tl (.tl (.hd))))))) | exact .tl (.tl (.tl (.tl (.tl (.tl (.tl (.tl (.hd)))))))) | exact .tl (.tl (.tl (.tl (.tl (.tl (.tl (.tl (.tl (.hd))))))))) | exact .tl (.tl (.tl (.tl (.tl (.tl (.tl (.tl (.tl (.tl (.hd)))))))))) | exact .tl (.tl (.tl (.tl (.tl (.tl (.tl (.tl (.tl (.tl (.tl (.hd)))))))))))) rfl rfl rfl rfl ?_
    refine r_assign (k := ?_)
    refine sl_nil ?_
    refine sp_then ?_
    refine sw_ret ?_
    refine sp_then_ret ?_
    refine sp_of_sl (fun h => f_have (φ := BS.nil.res) (fun V w hw => nil_res) h) ?_
    refine sp_ret2 rfl rfl (.agg (cs := zeroA.cs) rfl (tz rfl) rfl (.tail _ (.tail _ (.tail _ (.head _))))) (.tmp rfl) rfl rfl ⟨rfl, zeroA, rfl, ⟨Nat.le_refl _, Nat.zero_le _⟩, rfl, rfl⟩ (by simp) rfl (by simp; exact .inl rfl)
  | true =>
    have he : encV A = (A.page, 0) := by unfold encV; rw [hr']; rfl
    have hqA : q = A.page := by rw [hq, he]
    rw [he]
    dsimp only
    refine r_assign (k := ?_)
    refine sl_nil ?_
    refine sp_then ?_
    refine sw_seq ?_
    refine sw_seq ?_
    refine sw_region ?_
    refine r_move (k := ?_)
    refine r_neq (k := ?_)
    refine r_move (k := ?_)
    refine r_re (t := 118) (v' := vb false) rfl rfl ?_
    refine gd_yes (k := ?_)
    refine r_load_all (cs := bv q) (by exact tz rfl) (by exact rfl) (by first | exact .head _ | exact .tail _ (.head _) | exact .tail _ (.tail _ (.head _)) | exact .tail _ (.tail _ (.tail _ (.head _))) | exact .tail _ (.tail _ (.tail _ (.tail _ (.head _)))) | exact .tail _ (.tail _ (.tail _ (.tail _ (.tail _ (.head _))))) | exact .tail _ (.tail _ (.tail _ (.tail _ (.tail _ (.tail _ (.head _)))))) | exact .tail _ (.tail _ (.tail _ (.tail _ (.tail _ (.tail _ (.tail _ (.head _))))))) | exact .tail _ (.tail _ (.tail _ (.tail _ (.tail _ (.tail _ (.tail _ (.tail _ (.head _)))))))) | exact .tail _ (.tail _ (.tail _ (.tail _ (.tail _ (.tail _ (.tail _ (.tail _ (.tail _ (.head _))))))))) | exact .tail _ (.tail _ (.tail _ (.tail _ (.tail _ (.tail _ (.tail _ (.tail _ (.tail _ (.tail _ (.head _)))))))))) | exact .tail _ (.tail _ (.tail _ (.tail _ (.tail _ (.tail _ (.tail _ (.tail _ (.tail _ (.tail _ (.tail _ (.head _)))))))))))) hbq (by exact rfl) ?_
    refine gd_yes (k := ?_)
    refine r_load_fr (cs := bv p) (vs := bv p) (by exact tz rfl) (by exact rfl) (by first | exact .head _ | exact .tail _ (.head _) | exact .tail _ (.tail _ (.head _)) | exact .tail _ (.tail _ (.tail _ (.head _))) | exact .tail _ (.tail _ (.tail _ (.tail _ (.head _)))) | exact .tail _ (.tail _ (.tail _ (.tail _ (.tail _ (.head _))))) | exact .tail _ (.tail _ (.tail _ (.tail _ (.tail _ (.tail _ (.head _)))))) | exact .tail _ (.tail _ (.tail _ (.tail _ (.tail _ (.tail _ (.tail _ (.head _))))))) | exact .tail _ (.tail _ (.tail _ (.tail _ (.tail _ (.tail _ (.tail _ (.tail _ (.head _)))))))) | exact .tail _ (.tail _ (.tail _ (.tail _ (.tail _ (.tail _ (.tail _ (.tail _ (.tail _ (.head _))))))))) | exact .tail _ (.tail _ (.tail _ (.tail _ (.tail _ (.tail _ (.tail _ (.tail _ (.tail _ (.tail _ (.head _)))))))))) | exact .tail _ (.tail _ (.tail _ (.tail _ (.tail _ (.tail _ (.tail _ (.tail _ (.tail _ (.tail _ (.tail _ (.head _)))))))))))) (by unfold part'; rw [List.drop_zero, List.take_of_length_le (by omega)]) rfl hbp (by exact rfl) ?_
    refine gd_yes (k := ?_)
    refine r_neagg (xs := (bv q).toArray) (ys := (bv p).toArray) (by exact rfl) (by exact rfl) (by kernel_rfl) (page_eq q p hql hp) (by exact rfl) ?_
    refine rd_pick_f (k := ?_)
    refine sl_nil ?_
    refine sp_then ?_
    refine sw_cond rfl (fun hne => ?_) (fun hne => ?_)
    · have hne : ¬ q = p := by simpa using hne
      have hz : decP p = (AncP.zero, 50) := decP_zero hp fun a h1 h2 => hne (by rw [hqA, page_pure (hAp a h1 h2), h2])
      rw [hz]
      refine sw_seq ?_
      refine sw_region ?_
      refine r_buildP zeroA.cs (parts := []) (by exact rfl) (by kernel_rfl) (by exact rfl) ?_
      refine r_store_all (cs := zeroA.cs) (vs := zeroA.cs) (by exact tz rfl) (by exact rfl) (by exact rfl) (by first | exact .hd | exact .tl (.hd) | exact .tl (.tl (.hd)) | exact .tl (.tl (.tl (.hd))) | exact .tl (.tl (.tl (.tl (.hd)))) | exact .tl (.tl (.tl (.tl (.tl (.hd))))) | exact .tl (.tl (.tl (.tl (.tl (.tl (.hd)))))) | exact .tl (.tl (.tl (.tl (.tl (.tl (.tl (.hd))))))) | exact .tl (.tl (.tl (.tl (.tl (.tl (.tl (.tl (.hd)))))))) | exact .tl (.tl (.tl (.tl (.tl (.tl (.tl (.tl (.tl (.hd))))))))) | exact .tl (.tl (.tl (.tl (.tl (.tl (.tl (.tl (.tl (.tl (.hd)))))))))) | exact .tl (.tl (.tl (.tl (.tl (.tl (.tl (.tl (.tl (.tl (.tl (.hd)))))))))))) rfl rfl rfl rfl ?_
      refine r_assign (k := ?_)
      refine sl_nil ?_
      refine sp_then ?_
      refine sw_ret ?_
      refine sp_then_ret ?_
      refine sp_of_sl (fun h => f_have (φ := BS.nil.res) (fun V w hw => nil_res) h) ?_
      refine sp_ret2 rfl rfl (.agg (cs := zeroA.cs) rfl (tz rfl) rfl (.tail _ (.tail _ (.tail _ (.head _))))) (.tmp rfl) rfl rfl ⟨rfl, zeroA, rfl, ⟨Nat.le_refl _, Nat.zero_le _⟩, rfl, rfl⟩ (by simp) rfl (by simp; exact .inl rfl)
    · have hne : q = p := by simpa using hne
      have hz : decP p = (A.pure, 0) := by rw [← hne, hqA]; exact page_decP A hr'
      rw [hz]
      refine sw_skip ?_
      refine sp_then ?_
      refine sw_seq ?_
      refine sw_region ?_
      refine r_load_all (k := ?_)
      refine r_store_all (k := ?_)
      refine r_assign (k := ?_)
      refine sl_nil ?_
      refine sp_then ?_
      refine sw_ret ?_
      refine sp_ret2 rfl rfl (.agg (cs := A.cs) rfl (tz rfl) rfl (.tail _ (.tail _ (.tail _ (.head _))))) (.tmp rfl) rfl rfl ⟨rfl, A, rfl, hAok, rfl, rfl⟩ (by simp) rfl (by rw [hAk]; simp)
end Go.Proofs.YtjahiohlekdhoaaDoor
