/-
  The walk of anchor.Encode.
-/
import Derived.Test.YtjahiohlekdhoaaDoorAnchor2
import Derived.Test.YtjahiohlekdhoaaDoorE15
namespace Go.Proofs.YtjahiohlekdhoaaDoor
open Go
set_option maxHeartbeats 4000000
set_option maxRecDepth 4000
attribute [local irreducible] SW SL SP RA Then FQ IQ LoopQ RQ AQ NX CutQ Exit.noGoto

/-- What a loop over an anchor's numbers puts. -/
def putN (a : AncV) (s : List UInt8) (p : UInt64 × Nat) : List UInt8 := if p.2 = 0 then s ++ a.root.bytes else s ++ le p.2 p.1
theorem root_len (x : PtrV) : x.bytes.length = 17 := by rw [PtrV.bytes, packed_len]; rfl
theorem putN_len (a : AncV) (s : List UInt8) (p : UInt64 × Nat) (h : p.2 ≤ 8) : (putN a s p).length ≤ s.length + 17 := by
  unfold putN
  split
  · rw [List.length_append, root_len]; exact Nat.le_refl _
  · rw [List.length_append, le_length]; omega
theorem adm_put (a : AncV) {go : List UInt8 → Bool} : ∀ (L : List (UInt64 × Nat)) (s : List UInt8) (n : Nat), s.length + 17 * L.length ≤ n → (∀ p ∈ L, p.2 ≤ 8) → Adm (putN a) go (fun s p => s.length ≤ n ∧ p.2 ≤ 8) s L
  | [], _, _, _, _ => trivial
  | p :: l, s, n, h, hp => ⟨⟨by simp at h; omega, hp p (.head _)⟩, fun _ => adm_put a l _ n (by have := putN_len a s p (hp p (.head _)); simp at h; omega) fun q hq => hp q (.tail _ hq)⟩

/-- The bytes ahead of the key. -/
def AncV.head (a : AncV) : List UInt8 := a.nums.foldl (putN a) [65]
def AncV.body (a : AncV) : List UInt8 := a.head ++ UInt8.ofNat a.mark.key.xs.length :: a.mark.key.xs
def padTo (n : Nat) (l : List UInt8) : List UInt8 := l.take n ++ List.replicate (n - l.length) 0
def AncV.page (a : AncV) : List UInt8 := padTo 248 a.body ++ le 8 (sum (padTo 248 a.body))
def zeros (n : Nat) : List UInt8 := List.replicate n 0
def encV (a : AncV) : List UInt8 × Int := if a.right = true then (a.page, 0) else (zeros 256, 2)

theorem right_key (a : AncV) (h : a.right = true) : a.mark.key.xs.length ≤ 8 := by
  have hf : a.fine = true := by
    unfold AncV.right at h
    split at h
    · exact (Bool.and_eq_true _ _ ▸ h).1
    · exact (Bool.and_eq_true _ _ ▸ h).1
  have hm : markedV a.mark a.tx = true := by
    simp only [AncV.fine, Bool.and_eq_true] at hf
    exact hf.2.2.2.2.2.2.2
  unfold markedV at hm
  split at hm
  · cases hm
  · omega
theorem head_len (a : AncV) : a.head.length = 39 := by simp [AncV.head, AncV.nums, putN, le_length, root_len]
theorem body_len (a : AncV) : a.body.length = 40 + a.mark.key.xs.length := by simp [AncV.body, head_len]; omega
theorem padTo_len (n : Nat) (l : List UInt8) : (padTo n l).length = n := by simp [padTo]; omega
theorem page_len (a : AncV) : a.page.length = 256 := by simp [AncV.page, padTo_len, le_length]
theorem splice_bv (cur vs : List UInt8) (o : Nat) : splice (bv cur) o (bv vs) = bv (cur.take o ++ vs ++ cur.drop (o + vs.length)) := by simp [splice, bv, List.map_take, List.map_drop]
theorem pad_zeros (l : List UInt8) (h : l.length ≤ 248) : (zeros 256).take 0 ++ l ++ (zeros 256).drop (0 + l.length) = padTo 248 l ++ zeros 8 := by
  have e : 256 - l.length = (248 - l.length) + 8 := by omega
  simp only [zeros, padTo, List.take_zero, List.nil_append, List.drop_replicate, Nat.zero_add, List.take_of_length_le h, List.append_assoc, List.replicate_append_replicate, e]

def p248 (b : Nat) (l : List UInt8) : BS := ⟨some ⟨b, 0, none⟩, 256, padTo 248 l⟩
theorem p248_v (b : Nat) (l : List UInt8) : (p248 b l).v = .slice (some ⟨b, 0, none⟩) 248 256 := by simp [p248, BS.v, padTo_len]
theorem p248_ok (b : Nat) (l : List UInt8) : (p248 b l).ok := ⟨by simp [p248, padTo_len], by show 256 ≤ maxLen; decide⟩
theorem page_splice (l m : List UInt8) (h : m.length = 8) : (padTo 248 l ++ zeros 8).take 248 ++ m ++ (padTo 248 l ++ zeros 8).drop (248 + m.length) = padTo 248 l ++ m := by
  have h1 := padTo_len 248 l
  rw [List.take_left' h1, h, List.drop_of_length_le (by simp [h1, zeros])]
  simp

theorem c_encode (a : AncV) (hok : a.mark.key.ok) : Ctr Tryd.prog GW 14 [a.v] [] [a.mark.key.res] (ret1 (.tuple #[.agg (bv (encV a).1).toArray, vi (encV a).2])) := by
  refine Ctr.intro Tryd.func14 (by kernel_rfl) rfl Tryd.ntmps14 rfl rfl rfl fun w X => ?_
  refine sw_seq ?_
  refine sw_region ?_
  refine r_box (by exact rfl) (by exact rfl) (by exact rfl) fun b1 => ?_
  refine r_alloc (by exact z37) (cs := bv (zeros 256)) (by kernel_rfl) (by exact rfl) fun b2 => ?_
  refine r_assign (k := ?_)
  refine sl_nil ?_
  refine sp_then ?_
  refine sw_seq ?_
  refine sw_seq ?_
  refine sw_region ?_
  refine r_load_all (k := ?_)
  refine r_call1 (c_right GW a) (by exact rfl) (by exact rfl) (by exact rfl) (by simp) (by exact rfl) ?_
  refine r_not (k := ?_)
  refine sl_nil ?_
  refine sp_then ?_
  refine sw_cond rfl (fun h => ?_) (fun h => ?_)
  · have h : a.right = false := by simpa using h
    have e : encV a = (zeros 256, 2) := by unfold encV; rw [h]; rfl
    rw [e]
    refine sw_seq ?_
    refine sw_region ?_
    refine r_load_all (k := ?_)
    refine r_store_all (k := ?_)
    refine r_assign (k := ?_)
    refine sl_nil ?_
    refine sp_then ?_
    refine sw_ret ?_
    refine sp_then_ret ?_
    refine sp_ret2 rfl rfl (.agg rfl (tz rfl) rfl (.head _)) (.tmp rfl) rfl rfl ⟨rfl, rfl, rfl⟩ (by simp) rfl (by simp)
  · have h : a.right = true := by simpa using h
    have e : encV a = (a.page, 0) := by unfold encV; rw [h]; rfl
    rw [e]
    refine sw_skip ?_
    refine sp_then ?_
    refine sw_seq ?_
    refine sw_region ?_
    refine r_litB (xs := [.const (.int .u8 65)]) (bs := [65]) (by exact tl rfl) (by exact z5) (by exact rfl) (by exact rfl) (by exact rfl) (by exact rfl) (by exact rfl) fun v h1 h2 => ?_
    refine o_rowB fun s0 hs0 hx0 e => ?_
    subst e
    refine r_alloc (by exact z28) (by exact rfl) (by exact rfl) fun b4 => ?_
    refine r_store_all (k := ?_)
    refine sl_nil ?_
    refine sp_then ?_
    refine sw_seq ?_
    refine sw_seq ?_
    refine sw_region ?_
    refine r_load_all (k := ?_)
    refine f_have (φ := Res.pure (s0.xs = [65])) (fun _ _ _ => hx0) ?_
    refine r_callF (c_numbers GW a) (by exact rfl) (by exact rfl) (by exact rfl) (by simp) (by exact rfl) ?_
    rintro _ _ ⟨q1, q3, rfl, rfl⟩
    refine sl_nil ?_
    refine sp_then ?_
    refine sw_block ?_
    refine sw_rangeA (ι := { s : BS // s.ok }) (i_numbers GW q1 q3 a) (fun _ i => [.box b4 [i.1.v] 28, .box b2 (bv (zeros 256)) 37, .box b1 a.cs 32]) (fun s i => [Res.pure (i.1.xs = s), i.1.res, a.mark.key.res]) (putN a) (fun s p => s.length ≤ 154 ∧ p.2 ≤ 8) [65] ⟨s0, hs0⟩ rfl rfl rfl (adm_put a _ _ _ (by simp [AncV.nums]) (by intro p hp; simp [AncV.nums] at hp; rcases hp with rfl | rfl | rfl | rfl | rfl | rfl | rfl | rfl | rfl <;> simp)) (fun φ h => List.mem_append_left _ h) (fun φ h => List.mem_append_right _ h) (fun _ _ => rfl) rfl (fun x vs V w h => by rw [show vs = _ from h]; rfl) ?_ ?_
    · rintro l mk rec w X U K s ⟨i, hi⟩ x vs hrec ⟨hlen, hw8⟩ ht
      refine w_pure ?_
      rintro rfl
      refine w_pure ?_
      intro hx
      dsimp only at hx ⊢
      refine sw_seq ?_
      refine sw_region ?_
      refine r_assign (k := ?_)
      refine sl_nil ?_
      refine sp_then ?_
      refine sw_region ?_
      refine r_assign (k := ?_)
      refine sl_nil ?_
      refine sp_asgR hrec rfl ?_
      dsimp only [pull, push, two, List.drop, List.take, List.cons_append, List.nil_append]
      refine sw_block ?_
      refine sw_seq ?_
      refine sw_seq ?_
      refine sw_region ?_
      refine r_move (k := ?_)
      refine r_eql (k := ?_)
      refine sl_nil ?_
      refine sp_then ?_
      have hy := putN_len a s x hw8
      refine sw_cond rfl (fun h => ?_) (fun h => ?_)
      · have h := of_decide_eq_true h
        have e2 : putN a s x = s ++ a.root.bytes := if_pos (by omega)
        refine sw_seq ?_
        refine sw_region ?_
        refine r_load_one (k := ?_)
        refine r_fieldAddr (k := ?_)
        refine r_load_agg (k := ?_)
        refine r_callB (c_pput i a.root hi (by rw [hx]; omega)) (by exact rfl) (by exact rfl) (by exact rfl) (by simp) (by exact rfl) fun r hr hxr => ?_
        refine r_store_all (k := ?_)
        refine sl_nil ?_
        refine sp_then ?_
        refine sw_exit ?_
        refine sp_then_exit ?_
        refine sp_block_exit ?_
        refine sp_of_sl (fun h => f_have (φ := Res.pure (r.xs = putN a s x)) (fun _ _ _ => by show _ = _; rw [hxr, hx, e2]) h) ?_
        refine sp_round (ι := { s : BS // s.ok }) (i' := ⟨r, hr⟩) ht hrec ?_ ?_ ?_
        · rfl
        · exact List.Sublist.refl _
        · simp
      · have h := of_decide_eq_false h
        have e2 : putN a s x = s ++ le x.2 x.1 := if_neg (by omega)
        refine sw_skip ?_
        refine sp_then ?_
        refine sw_region ?_
        refine r_load_one (k := ?_)
        refine r_move (k := ?_)
        refine r_move (k := ?_)
        refine r_callB (c_put GW i x.1 x.2 (by omega) hw8 (by rw [hx]; omega)) (by exact rfl) (by exact rfl) (by exact rfl) (by simp) (by exact rfl) fun r hr hxr => ?_
        refine r_store_all (k := ?_)
        refine sl_nil ?_
        refine sp_block ?_
        refine sp_of_sl (fun h => f_have (φ := Res.pure (r.xs = putN a s x)) (fun _ _ _ => by show _ = _; rw [hxr, hx, e2]) h) ?_
        refine sp_round (ι := { s : BS // s.ok }) (i' := ⟨r, hr⟩) ht hrec ?_ ?_ ?_
        · rfl
        · exact List.Sublist.refl _
        · simp
    · rintro ⟨i, hi⟩ mk
      have hk8 := right_key a h
      have hbl := body_len a
      refine sp_block ?_
      refine sp_then ?_
      refine sw_seq ?_
      refine w_pure ?_
      intro hx
      have hx : i.xs = a.head := hx
      have hhl := head_len a
      dsimp only
      refine sw_draw [(none, .box b4 [i.v] 28), (none, .box b1 a.cs 32)] [i.res, a.mark.key.res] [0, 1, 2, 3, 4, 5, 6] mix (by kernel_rfl) rfl ?_
      refine ra_first 0 [] [1, 2, 3, 4, 5, 6] (hq := by exact q_cut_arr (l := 0) (h := 248) (len := 256) (by exact ta rfl) (by exact rfl) rfl ⟨_, rfl⟩ (by omega) (by omega) (by omega)) (k := ?_)
      refine ra_first 1 [(none, .box b4 [i.v] 28)] [2, 3, 4, 5, 6] (hq := by first | exact q_load_one | exact q_load_all | exact q_load_fr1 | exact q_load_fr) (k := ?_)
      refine ra_first 2 [] [3, 4, 5, 6] (hq := by exact q_fieldAddr) (k := ?_)
      refine ra_first 3 [] [4, 5, 6] (hq := by exact q_fieldAddr) (k := ?_)
      refine ra_first 4 [(none, .box b1 a.cs 32)] [5, 6] (hq := by first | exact q_load_one | exact q_load_all | exact q_load_fr1 | exact q_load_fr) (k := ?_)
      refine ra1 (i := 5) [6] (h := ?_)
      refine r_callR (Bp := []) (Br := [.mark mk, .box b4 [i.v] 28, .box b2 (bv (zeros 256)) 37, .box b1 a.cs 32]) (c_putBytes GW i a.mark.key hi hok (by rw [hx, hhl]; omega) (by omega)) (by exact rfl) (by exact rfl) (by exact rfl) (by simp) (by exact rfl) fun v h1 h2 => ?_
      refine o_rowB fun kb hkb hkx e => ?_
      subst e
      have hkx : kb.xs = a.body := by rw [hkx, hx]; rfl
      refine sl_nil ?_
      refine sp_nx (k := ?_)
      refine ra1 (i := 6) [] (h := ?_)
      refine r_copy (nn := kb.xs.length) (news := bv kb.xs) (cur := bv (zeros 256)) (cur' := bv (padTo 248 a.body ++ zeros 8)) (by exact tl rfl) (by exact rfl) (by exact rfl) (by first | exact .head _ | exact .tail _ (.head _) | exact .tail _ (.tail _ (.head _)) | exact .tail _ (.tail _ (.tail _ (.head _))) | exact .tail _ (.tail _ (.tail _ (.tail _ (.head _)))) | exact .tail _ (.tail _ (.tail _ (.tail _ (.tail _ (.head _))))) | exact .tail _ (.tail _ (.tail _ (.tail _ (.tail _ (.tail _ (.head _)))))) | exact .tail _ (.tail _ (.tail _ (.tail _ (.tail _ (.tail _ (.tail _ (.head _))))))) | exact .tail _ (.tail _ (.tail _ (.tail _ (.tail _ (.tail _ (.tail _ (.tail _ (.head _)))))))) | exact .tail _ (.tail _ (.tail _ (.tail _ (.tail _ (.tail _ (.tail _ (.tail _ (.tail _ (.head _))))))))) | exact .tail _ (.tail _ (.tail _ (.tail _ (.tail _ (.tail _ (.tail _ (.tail _ (.tail _ (.tail _ (.head _)))))))))) | exact .tail _ (.tail _ (.tail _ (.tail _ (.tail _ (.tail _ (.tail _ (.tail _ (.tail _ (.tail _ (.tail _ (.head _)))))))))))) (by rw [hkx, hbl]; exact Nat.min_eq_left (by omega)) (by rw [bv_len]; exact Nat.le_refl _) (by rw [hkx, hbl]; simp [bv, zeros]; omega) (bv_one _) ?_ (by first | exact .hd | exact .tl (.hd) | exact .tl (.tl (.hd)) | exact .tl (.tl (.tl (.hd))) | exact .tl (.tl (.tl (.tl (.hd)))) | exact .tl (.tl (.tl (.tl (.tl (.hd))))) | exact .tl (.tl (.tl (.tl (.tl (.tl (.hd)))))) | exact .tl (.tl (.tl (.tl (.tl (.tl (.tl (.hd))))))) | exact .tl (.tl (.tl (.tl (.tl (.tl (.tl (.tl (.hd)))))))) | exact .tl (.tl (.tl (.tl (.tl (.tl (.tl (.tl (.tl (.hd))))))))) | exact .tl (.tl (.tl (.tl (.tl (.tl (.tl (.tl (.tl (.tl (.hd)))))))))) | exact .tl (.tl (.tl (.tl (.tl (.tl (.tl (.tl (.tl (.tl (.tl (.hd)))))))))))) (by exact rfl) ?_
      · rw [List.take_of_length_le (by rw [bv_len]; exact Nat.le_refl _), splice_bv, hkx]
        exact congrArg bv (pad_zeros _ (by omega))
      refine sl_nil ?_
      refine sp_nx (k := ?_)
      refine ra_done ?_
      refine sp_then ?_
      refine sw_seq ?_
      refine sw_draw [] [] [0, 1, 2, 3, 4, 5] mix (by kernel_rfl) rfl ?_
      refine ra_first 0 [] [1, 2, 3, 4, 5] (hq := by exact q_cut_arr (l := 248) (h := 256) (len := 256) (by exact ta rfl) (by exact rfl) ⟨_, rfl⟩ rfl (by omega) (by omega) (by omega)) (k := ?_)
      refine ra_first 1 [] [2, 3, 4, 5] (hq := by exact q_cut_arr (l := 0) (h := 248) (len := 256) (by exact ta rfl) (by exact rfl) rfl ⟨_, rfl⟩ (by omega) (by omega) (by omega)) (k := ?_)
      refine ra1 (i := 2) [3, 4, 5] (h := ?_)
      refine r_re (t := 34) (v' := (p248 b2 a.body).v) rfl (p248_v b2 a.body).symm ?_
      refine r_lit (vs := [(p248 b2 a.body).v]) (xs := [.tmp 34]) (cells := [(p248 b2 a.body).v]) (by exact tl rfl) (by exact z28) (by exact rfl) (by exact rfl) (by intro v hv; simp at hv; subst hv; rfl) (by decide) (by decide) (by exact rfl) (by exact rfl) (by exact rfl) fun q => ?_
      refine o_row fun ba cap e h1 h2 h3 => ?_
      cases e
      refine sl_nil ?_
      refine sp_nx (k := ?_)
      refine ra1 (i := 3) [4, 5] (h := ?_)
      refine r_call1L (c_sum GW (some ⟨q, 0, none⟩) 1 [p248 b2 a.body] (by intro p hp; simp at hp; subst hp; exact p248_ok _ _) (by simp [maxLen])) [.box b2 (bv (padTo 248 a.body ++ zeros 8)) 37] (by exact rfl) (by exact rfl) (by exact rfl) ?_ ?_ (by exact rfl) ?_
      · exact .cons _ (.cons _ (.cons_cons _ (.cons _ .slnil)))
      · intro φ hφ
        simp at hφ
        rcases hφ with rfl | rfl
        · exact lent_of (.head _)
        · intro V w hh hv hw p hp
          simp at hp
          subst hp
          have := lent_box (Φ := []) (l := 0) (n := 248) (List.Mem.head (a := Own.box b2 (bv (padTo 248 a.body ++ zeros 8)) 37) []) V w hh hv (by simp)
          rw [bv_cut, List.drop_zero, List.take_left' (padTo_len 248 a.body)] at this
          exact this
      have es : flat [p248 b2 a.body] = padTo 248 a.body := by simp [flat, p248]
      rw [es]
      refine sl_nil ?_
      refine sp_nx (k := ?_)
      refine ra1 (i := 4) [5] (h := ?_)
      refine f_have (φ := BS.nil.res) (fun V w hw => nil_res) ?_
      refine r_callB (c_put GW BS.nil (sum (padTo 248 a.body)) 8 (by decide) (by decide) (by decide)) (by exact rfl) (by exact rfl) (by exact rfl) (by simp) (by exact rfl) fun r hr hxr => ?_
      have hxr : r.xs = le 8 (sum (padTo 248 a.body)) := hxr
      have hrl : r.xs.length = 8 := by rw [hxr, le_length]
      refine sl_nil ?_
      refine sp_nx (k := ?_)
      refine ra1 (i := 5) [] (h := ?_)
      refine r_copy (nn := 8) (news := bv r.xs) (cur := bv (padTo 248 a.body ++ zeros 8)) (cur' := bv a.page) (by exact tl rfl) (by exact rfl) (by exact rfl) (by first | exact .head _ | exact .tail _ (.head _) | exact .tail _ (.tail _ (.head _)) | exact .tail _ (.tail _ (.tail _ (.head _))) | exact .tail _ (.tail _ (.tail _ (.tail _ (.head _)))) | exact .tail _ (.tail _ (.tail _ (.tail _ (.tail _ (.head _))))) | exact .tail _ (.tail _ (.tail _ (.tail _ (.tail _ (.tail _ (.head _)))))) | exact .tail _ (.tail _ (.tail _ (.tail _ (.tail _ (.tail _ (.tail _ (.head _))))))) | exact .tail _ (.tail _ (.tail _ (.tail _ (.tail _ (.tail _ (.tail _ (.tail _ (.head _)))))))) | exact .tail _ (.tail _ (.tail _ (.tail _ (.tail _ (.tail _ (.tail _ (.tail _ (.tail _ (.head _))))))))) | exact .tail _ (.tail _ (.tail _ (.tail _ (.tail _ (.tail _ (.tail _ (.tail _ (.tail _ (.tail _ (.head _)))))))))) | exact .tail _ (.tail _ (.tail _ (.tail _ (.tail _ (.tail _ (.tail _ (.tail _ (.tail _ (.tail _ (.tail _ (.head _)))))))))))) (by rw [hrl]; rfl) (by rw [bv_len, hrl]; exact Nat.le_refl _) (by simp [bv, zeros, padTo_len]) (bv_one _) ?_ (by first | exact .hd | exact .tl (.hd) | exact .tl (.tl (.hd)) | exact .tl (.tl (.tl (.hd))) | exact .tl (.tl (.tl (.tl (.hd)))) | exact .tl (.tl (.tl (.tl (.tl (.hd))))) | exact .tl (.tl (.tl (.tl (.tl (.tl (.hd)))))) | exact .tl (.tl (.tl (.tl (.tl (.tl (.tl (.hd))))))) | exact .tl (.tl (.tl (.tl (.tl (.tl (.tl (.tl (.hd)))))))) | exact .tl (.tl (.tl (.tl (.tl (.tl (.tl (.tl (.tl (.hd))))))))) | exact .tl (.tl (.tl (.tl (.tl (.tl (.tl (.tl (.tl (.tl (.hd)))))))))) | exact .tl (.tl (.tl (.tl (.tl (.tl (.tl (.tl (.tl (.tl (.tl (.hd)))))))))))) (by exact rfl) ?_
      · rw [List.take_of_length_le (by rw [bv_len, hrl]; exact Nat.le_refl _), show 248 * 1 = 248 from rfl, splice_bv]
        exact congrArg bv (by rw [page_splice _ _ hrl, hxr]; rfl)
      refine sl_nil ?_
      refine sp_nx (k := ?_)
      refine ra_done ?_
      have hpl : (bv a.page).length = 256 := by rw [bv_len]; exact page_len a
      refine sp_then ?_
      refine sw_seq ?_
      refine sw_region ?_
      refine r_load_all (cs := bv a.page) (by exact tz rfl) (by exact rfl) (by first | exact .head _ | exact .tail _ (.head _) | exact .tail _ (.tail _ (.head _)) | exact .tail _ (.tail _ (.tail _ (.head _))) | exact .tail _ (.tail _ (.tail _ (.tail _ (.head _)))) | exact .tail _ (.tail _ (.tail _ (.tail _ (.tail _ (.head _))))) | exact .tail _ (.tail _ (.tail _ (.tail _ (.tail _ (.tail _ (.head _)))))) | exact .tail _ (.tail _ (.tail _ (.tail _ (.tail _ (.tail _ (.tail _ (.head _))))))) | exact .tail _ (.tail _ (.tail _ (.tail _ (.tail _ (.tail _ (.tail _ (.tail _ (.head _)))))))) | exact .tail _ (.tail _ (.tail _ (.tail _ (.tail _ (.tail _ (.tail _ (.tail _ (.tail _ (.head _))))))))) | exact .tail _ (.tail _ (.tail _ (.tail _ (.tail _ (.tail _ (.tail _ (.tail _ (.tail _ (.tail _ (.head _)))))))))) | exact .tail _ (.tail _ (.tail _ (.tail _ (.tail _ (.tail _ (.tail _ (.tail _ (.tail _ (.tail _ (.tail _ (.head _)))))))))))) hpl (by exact rfl) ?_
      refine r_store_all (cs := bv a.page) (vs := bv a.page) (by exact tz rfl) (by exact rfl) (by exact rfl) (by first | exact .hd | exact .tl (.hd) | exact .tl (.tl (.hd)) | exact .tl (.tl (.tl (.hd))) | exact .tl (.tl (.tl (.tl (.hd)))) | exact .tl (.tl (.tl (.tl (.tl (.hd))))) | exact .tl (.tl (.tl (.tl (.tl (.tl (.hd)))))) | exact .tl (.tl (.tl (.tl (.tl (.tl (.tl (.hd))))))) | exact .tl (.tl (.tl (.tl (.tl (.tl (.tl (.tl (.hd)))))))) | exact .tl (.tl (.tl (.tl (.tl (.tl (.tl (.tl (.tl (.hd))))))))) | exact .tl (.tl (.tl (.tl (.tl (.tl (.tl (.tl (.tl (.tl (.hd)))))))))) | exact .tl (.tl (.tl (.tl (.tl (.tl (.tl (.tl (.tl (.tl (.tl (.hd)))))))))))) rfl hpl (bv_one _) hpl ?_
      refine r_assign (by exact rfl) (by exact rfl) ?_
      refine sl_nil ?_
      refine sp_then ?_
      refine sw_ret ?_
      refine sp_ret2 rfl rfl (.agg rfl (tz rfl) hpl (.tail _ (.tail _ (.head _)))) (.tmp rfl) rfl rfl ⟨rfl, rfl, rfl⟩ (by simp) rfl (by simp)
end Go.Proofs.YtjahiohlekdhoaaDoor
