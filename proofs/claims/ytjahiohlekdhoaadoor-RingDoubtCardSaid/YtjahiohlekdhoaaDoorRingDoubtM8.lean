/-
  Anchors and their pages, plain: what is decoded is encoded as it was, and the other way about.
  The walk of suturelaw09.AnchorJust: it tells true.
  The walks of ring's slots.
  The walks of the ring laws' anchors.
  The walk of ring.Slots.
  The walk of ring.Slots.
  The walk of ring.has.
  The walk of ring.Void.
-/
import Derived.Test.YtjahiohlekdhoaaDoorRingDoubtM7
import Derived.Test.YtjahiohlekdhoaaDoorRingDoubtM5
import Derived.Stop.BytesEq
namespace Go.Proofs.YtjahiohlekdhoaaDoor
open Go

theorem page_pure {a b : AncV} (h : a.pure = b.pure) : a.page = b.page := by
  obtain ⟨h1, h2, h3, h4, h5, h6, h7, h8, h9, h10⟩ := AncP.mk.inj h
  have hn : a.nums = b.nums := by unfold AncV.nums; rw [h1, h2, h4, h5, h6, h7, h8, h9]
  have hh : a.head = b.head := by
    unfold AncV.head
    rw [hn]
    have : putN a = putN b := by funext s p; unfold putN; rw [h3]
    rw [this]
  have hb : a.body = b.body := by unfold AncV.body; rw [hh, h10]
  unfold AncV.page
  rw [hb]

/-- The bytes behind the first one, ahead of the key. -/
def AncV.nine (a : AncV) : List UInt8 := le 4 a.tx.toUInt64 ++ (le 2 a.size.toUInt64 ++ (a.root.bytes ++ (le 4 a.count.toUInt64 ++ (le 1 a.live.toUInt64 ++ (le 4 a.both.toUInt64 ++ (le 1 a.mark.on.toUInt64 ++ (le 1 a.mark.disk.toUInt64 ++ le 4 a.mark.since.toUInt64)))))))
theorem head_nine (a : AncV) : a.head = 65 :: a.nine := by simp [AncV.head, AncV.nums, putN, AncV.nine]

/-- A list in nine pieces and a rest. -/
structure Pieces (q : List UInt8) where
  t : List UInt8
  s : List UInt8
  r : List UInt8
  c : List UInt8
  l : List UInt8
  b : List UInt8
  o : List UInt8
  d : List UInt8
  i : List UInt8
  z : List UInt8
  eq : q = t ++ (s ++ (r ++ (c ++ (l ++ (b ++ (o ++ (d ++ (i ++ z))))))))
  ht : t.length = 4
  hs : s.length = 2
  hr : r.length = 17
  hc : c.length = 4
  hl : l.length = 1
  hb : b.length = 4
  ho : o.length = 1
  hd : d.length = 1
  hi : i.length = 4

theorem piece (q : List UInt8) (n k : Nat) (h : n ≤ q.length) : ∃ a r, q = a ++ r ∧ a.length = n ∧ r.length = q.length - n ∧ k = k :=
  ⟨q.take n, q.drop n, (List.take_append_drop n q).symm, by simp; omega, by simp, rfl⟩
theorem pieces (q : List UInt8) (h : 38 ≤ q.length) : Nonempty (Pieces q) := by
  obtain ⟨t, q1, rfl, ht, h1, _⟩ := piece q 4 0 (by omega)
  simp only [List.length_append, ht] at h
  obtain ⟨s, q2, rfl, hs, h2, _⟩ := piece q1 2 0 (by omega)
  simp only [List.length_append, hs] at h
  obtain ⟨r, q3, rfl, hr, h3, _⟩ := piece q2 17 0 (by omega)
  simp only [List.length_append, hr] at h
  obtain ⟨c, q4, rfl, hc, h4, _⟩ := piece q3 4 0 (by omega)
  simp only [List.length_append, hc] at h
  obtain ⟨l, q5, rfl, hl, h5, _⟩ := piece q4 1 0 (by omega)
  simp only [List.length_append, hl] at h
  obtain ⟨b, q6, rfl, hb, h6, _⟩ := piece q5 4 0 (by omega)
  simp only [List.length_append, hb] at h
  obtain ⟨o, q7, rfl, ho, h7, _⟩ := piece q6 1 0 (by omega)
  simp only [List.length_append, ho] at h
  obtain ⟨d, q8, rfl, hd, h8, _⟩ := piece q7 1 0 (by omega)
  simp only [List.length_append, hd] at h
  obtain ⟨i, z, rfl, hi, h9, _⟩ := piece q8 4 0 (by omega)
  exact ⟨⟨t, s, r, c, l, b, o, d, i, z, rfl, ht, hs, hr, hc, hl, hb, ho, hd, hi⟩⟩

theorem ptake_app (r s : List UInt8) (h : r.length = 17) : ptake (r ++ s) = ptake r := by
  have := bytes_ptake (ptake r) s
  rwa [ptake_bytes r h] at this
theorem takeN_eq (w : Nat) (hw : ¬ w = 0) (x : UInt64) (a rest : List UInt8) (l : List UInt64) (i : Nat) (root : PtrV) (h : a.length = w) : takeN ⟨a ++ rest, l, i, root⟩ (x, w) = ⟨rest, l.set i (unle a), i + 1, root⟩ := by
  unfold takeN
  rw [if_neg hw]
  simp only [List.drop_left' h, List.take_left' h]
theorem takeN_root (x : UInt64) (a rest : List UInt8) (l : List UInt64) (i : Nat) (root : PtrV) (h : a.length = 17) : takeN ⟨a ++ rest, l, i, root⟩ (x, 0) = ⟨rest, l, i + 1, ptake a⟩ := by
  unfold takeN
  rw [if_pos rfl]
  simp only [List.drop_left' h, ptake_app a rest h]
theorem decD_pieces {p q : List UInt8} (hq : (p.drop 1).take 247 = q) (P : Pieces q) : decD p = ⟨P.z, [unle P.t, unle P.s, 0, unle P.c, unle P.l, unle P.b, unle P.o, unle P.d, unle P.i], 9, ptake P.r⟩ := by
  have e := hq.trans P.eq
  unfold decD
  rw [e]
  simp only [AncV.nums, List.foldl_cons, List.foldl_nil]
  rw [takeN_eq 4 (by decide) _ _ _ _ _ _ P.ht, takeN_eq 2 (by decide) _ _ _ _ _ _ P.hs, takeN_root _ _ _ _ _ _ P.hr, takeN_eq 4 (by decide) _ _ _ _ _ _ P.hc, takeN_eq 1 (by decide) _ _ _ _ _ _ P.hl, takeN_eq 4 (by decide) _ _ _ _ _ _ P.hb,
    takeN_eq 1 (by decide) _ _ _ _ _ _ P.ho, takeN_eq 1 (by decide) _ _ _ _ _ _ P.hd, takeN_eq 4 (by decide) _ _ _ _ _ _ P.hi]
  rfl

/-- The anchor that pieces tell, with a key. -/
def Pieces.anc {q : List UInt8} (P : Pieces q) (key : BS) : AncV := ⟨(unle P.t).toUInt32, (unle P.s).toUInt16, ptake P.r, (unle P.c).toUInt32, (unle P.l).toUInt8, (unle P.b).toUInt32, ⟨(unle P.o).toUInt8, (unle P.d).toUInt8, (unle P.i).toUInt32, key⟩⟩
theorem Pieces.nine {q : List UInt8} (P : Pieces q) (key : BS) : (P.anc key).nine ++ P.z = q := by
  simp only [AncV.nine, Pieces.anc, le4_of _ P.ht, le2_of _ P.hs, ptake_bytes _ P.hr, le4_of _ P.hc, le1_of _ P.hl, le4_of _ P.hb, le1_of _ P.ho, le1_of _ P.hd, le4_of _ P.hi]
  refine Eq.trans ?_ P.eq.symm
  simp only [List.append_assoc]

theorem clean_zeros : ∀ (l : List UInt8), l.any nonzero = false → l = zeros l.length
  | [], _ => rfl
  | b :: l, h => by
    simp only [List.any_cons, Bool.or_eq_false_iff] at h
    have hb : b = 0 := by
      have := h.1
      simp only [nonzero, ne_eq, decide_not, Bool.not_eq_false', decide_eq_true_eq] at this
      exact UInt8.toNat_inj.1 (by simpa using this)
    rw [hb, clean_zeros l h.2]
    simp [zeros, List.replicate_succ]
theorem zeros_clean (n : Nat) : (zeros n).any nonzero = false := by
  rw [List.any_eq_false]
  intro x hx
  rw [zeros, List.mem_replicate] at hx
  rw [hx.2]; decide

/-- WHAT IS DECODED HAS JUST THIS PAGE, AND MAY BE. -/
theorem dec_page {n : UInt8} {l : List UInt8} (hp : (n :: l).length = 256) {a : AncV} (h : decV n (n :: l) = (a.pure, 0)) : a.right = true ∧ a.page = n :: l := by
  unfold decV at h
  cases hb : badP n (n :: l) with
  | true => rw [hb] at h; simp at h
  | false =>
    rw [hb] at h
    simp only [cond_false] at h
    simp only [badP, Bool.or_eq_false_iff, decide_eq_false_iff_not, ne_eq, Decidable.not_not, Int.ofNat_inj] at hb
    obtain ⟨hn, hsum⟩ := hb
    have hn65 : n = 65 := UInt8.toNat_inj.1 (by have : (n.toNat : Int) = 65 := hn; exact Int.ofNat_inj.1 this)
    have hsum : unle ((n :: l).drop 248) = sum ((n :: l).take 248) := UInt64.toNat_inj.1 hsum
    subst hn65
    have hll : l.length = 255 := by simpa using hp
    obtain ⟨P⟩ := pieces (((65 :: l : List UInt8).drop 1).take 247) (by simp [hll])
    have hzl : P.z.length = 209 := by
      have := congrArg List.length P.eq
      simp only [List.length_append, P.ht, P.hs, P.hr, P.hc, P.hl, P.hb, P.ho, P.hd, P.hi, List.length_take, List.length_drop, List.length_cons, hll] at this
      omega
    rw [decD_pieces rfl P] at h
    obtain ⟨m, r, hmr⟩ : ∃ m r, P.z = m :: r := by
      cases hz : P.z with
      | nil => rw [hz] at hzl; cases hzl
      | cons m r => exact ⟨m, r, rfl⟩
    unfold decR at h
    rw [hmr] at h
    dsimp only at h
    split at h
    · rename_i hc
      obtain ⟨he, hr, hcl⟩ := hc
      have hpure := (Prod.mk.inj h).1
      have hm8 := lt8 m
      have hrl : r.length = 208 := by rw [hmr] at hzl; simpa using hzl
      have htb : takeB m r 8 = (r.take m.toNat, r.drop m.toNat, 0) ∧ m.toNat ≤ 8 := by
        unfold takeB at he ⊢
        split
        · rename_i h1; rw [if_pos h1] at he; cases he
        · rename_i h1
          rw [if_neg h1] at he
          split
          · rename_i h2; rw [if_pos h2] at he; cases he
          · exact ⟨rfl, by omega⟩
      rw [htb.1] at hr hcl hpure
      have ha : a.pure = (P.anc ⟨none, 0, r.take m.toNat⟩).pure := by rw [← hpure]; rfl
      refine ⟨(right_pure ha).trans (by rw [← hr]; rfl), ?_⟩
      rw [page_pure ha]
      have hkl : (r.take m.toNat).length = m.toNat := by simp; omega
      have hbody : (P.anc ⟨none, 0, r.take m.toNat⟩).body = 65 :: ((P.anc ⟨none, 0, r.take m.toNat⟩).nine ++ (m :: r.take m.toNat)) := by
        unfold AncV.body
        rw [head_nine]
        have : UInt8.ofNat (P.anc ⟨none, 0, r.take m.toNat⟩).mark.key.xs.length = m := by
          show UInt8.ofNat (r.take m.toNat).length = m
          rw [hkl]; simp
        rw [this]
        rfl
      have hpad : padTo 248 (P.anc ⟨none, 0, r.take m.toNat⟩).body = (65 :: l : List UInt8).take 248 := by
        have hq := P.nine ⟨none, 0, r.take m.toNat⟩
        rw [hmr] at hq
        have hd : r.drop m.toNat = zeros (208 - m.toNat) := by
          have := clean_zeros _ hcl
          rw [List.length_drop, hrl] at this
          exact this
        have hnl : (P.anc ⟨none, 0, r.take m.toNat⟩).nine.length = 38 := by
          have := congrArg List.length (head_nine (P.anc ⟨none, 0, r.take m.toNat⟩))
          rw [head_len] at this
          simpa using this.symm
        have hbl : (P.anc ⟨none, 0, r.take m.toNat⟩).body.length = 40 + m.toNat := by rw [hbody]; simp [hnl, hkl]; omega
        rw [padTo, hbl, List.take_of_length_le (by omega), hbody, show 248 - (40 + m.toNat) = 208 - m.toNat by omega]
        rw [show List.replicate (208 - m.toNat) (0 : UInt8) = r.drop m.toNat from hd.symm, List.cons_append, List.append_assoc, List.cons_append, List.take_append_drop, hq]
        simp
      unfold AncV.page
      rw [hpad, ← hsum, le_unle' _ 8 (by simp [hll]) (by omega), List.take_append_drop]
    · have := (Prod.mk.inj h).2
      cases this

theorem padTo_le (n : Nat) (l : List UInt8) (h : l.length ≤ n) : padTo n l = l ++ zeros (n - l.length) := by rw [padTo, List.take_of_length_le h]; rfl
theorem page_head (a : AncV) (hk : a.mark.key.xs.length ≤ 8) : a.page = 65 :: (a.nine ++ (UInt8.ofNat a.mark.key.xs.length :: (a.mark.key.xs ++ (zeros (208 - a.mark.key.xs.length) ++ le 8 (sum (padTo 248 a.body)))))) := by
  have hbl := body_len a
  unfold AncV.page
  rw [padTo_le 248 _ (by omega), hbl]
  unfold AncV.body
  rw [head_nine, show 248 - (40 + a.mark.key.xs.length) = 208 - a.mark.key.xs.length by omega]
  simp only [List.cons_append, List.append_assoc]
/-- AN ANCHOR THAT MAY BE IS DECODED AS IT IS. -/
theorem page_dec (a : AncV) (h : a.right = true) : decV 65 a.page = (a.pure, 0) := by
  have hk := right_key a h
  have hph := page_head a hk
  have hlen := page_len a
  have hpl : (padTo 248 a.body).length = 248 := padTo_len _ _
  have htake : a.page.take 248 = padTo 248 a.body := List.take_left' hpl
  have hdrop : a.page.drop 248 = le 8 (sum (padTo 248 a.body)) := List.drop_left' hpl
  have hbad : badP 65 a.page = false := by
    simp only [badP, hdrop, htake, unle_le_id 8 _ (by omega) (show _ < 256 ^ 8 from lt64 _)]
    simp
  have hnl : a.nine.length = 38 := by
    have := congrArg List.length (head_nine a)
    rw [head_len] at this
    simpa using this.symm
  have hq : (a.page.drop 1).take 247 = a.nine ++ (UInt8.ofNat a.mark.key.xs.length :: (a.mark.key.xs ++ zeros (208 - a.mark.key.xs.length))) := by
    have e : a.page.drop 1 = (a.nine ++ (UInt8.ofNat a.mark.key.xs.length :: (a.mark.key.xs ++ zeros (208 - a.mark.key.xs.length)))) ++ le 8 (sum (padTo 248 a.body)) := by
      rw [hph, List.drop_one, List.tail_cons]
      simp only [List.append_assoc, List.cons_append]
    rw [e]
    exact List.take_left' (by simp [hnl, zeros]; omega)
  unfold decV
  rw [hbad]
  simp only [cond_false]
  have hP : decD a.page = ⟨UInt8.ofNat a.mark.key.xs.length :: (a.mark.key.xs ++ zeros (208 - a.mark.key.xs.length)), [unle (le 4 a.tx.toUInt64), unle (le 2 a.size.toUInt64), 0, unle (le 4 a.count.toUInt64), unle (le 1 a.live.toUInt64), unle (le 4 a.both.toUInt64), unle (le 1 a.mark.on.toUInt64), unle (le 1 a.mark.disk.toUInt64), unle (le 4 a.mark.since.toUInt64)], 9, ptake a.root.bytes⟩ :=
    decD_pieces hq ⟨le 4 a.tx.toUInt64, le 2 a.size.toUInt64, a.root.bytes, le 4 a.count.toUInt64, le 1 a.live.toUInt64, le 4 a.both.toUInt64, le 1 a.mark.on.toUInt64, le 1 a.mark.disk.toUInt64, le 4 a.mark.since.toUInt64, _, by simp only [AncV.nine, List.append_assoc], le_length _ _, le_length _ _, bytes_len _, le_length _ _, le_length _ _, le_length _ _, le_length _ _, le_length _ _, le_length _ _⟩
  rw [hP]
  have hkn : (UInt8.ofNat a.mark.key.xs.length).toNat = a.mark.key.xs.length := by rw [UInt8.toNat_ofNat']; omega
  have htb : takeB (UInt8.ofNat a.mark.key.xs.length) (a.mark.key.xs ++ zeros (208 - a.mark.key.xs.length)) 8 = (a.mark.key.xs, zeros (208 - a.mark.key.xs.length), 0) := by
    unfold takeB
    rw [hkn, if_neg (by simp only [List.length_append]; omega), if_neg (by omega), List.take_left' rfl, List.drop_left' rfl]
  have hptr : ptake a.root.bytes = a.root := by have := bytes_ptake a.root []; rwa [List.append_nil] at this
  have hanc : (DS.anc ⟨UInt8.ofNat a.mark.key.xs.length :: (a.mark.key.xs ++ zeros (208 - a.mark.key.xs.length)), [unle (le 4 a.tx.toUInt64), unle (le 2 a.size.toUInt64), 0, unle (le 4 a.count.toUInt64), unle (le 1 a.live.toUInt64), unle (le 4 a.both.toUInt64), unle (le 1 a.mark.on.toUInt64), unle (le 1 a.mark.disk.toUInt64), unle (le 4 a.mark.since.toUInt64)], 9, ptake a.root.bytes⟩ a.mark.key.xs) = a.pure := by
    simp only [DS.anc, List.getD_cons_zero, List.getD_cons_succ, of_le4, of_le2, of_le1, hptr]
    rfl
  unfold decR
  dsimp only
  rw [htb]
  dsimp only
  rw [hanc, if_pos ⟨rfl, (right_pure (a := a.pure.withKey ⟨none, 0, a.mark.key.xs⟩) (b := a) rfl).trans h, zeros_clean _⟩]

/-- The two ways in one. -/
theorem dec_or (n : UInt8) (p : List UInt8) : (decV n p).2 = 0 ∨ (decV n p = (AncP.zero, 50)) := by
  unfold decV
  cases badP n p with
  | true => exact .inr rfl
  | false =>
    simp only [cond_false]
    unfold decR
    split
    · exact .inr rfl
    · split
      · exact .inl rfl
      · exact .inr rfl
end Go.Proofs.YtjahiohlekdhoaaDoor

namespace Go.Proofs.YtjahiohlekdhoaaDoor
open Go
set_option maxHeartbeats 4000000
set_option maxRecDepth 4000
attribute [local irreducible] SW SL SP RA Then FQ IQ LoopQ RQ AQ NX CutQ Exit.noGoto

theorem page_eq (xs ys : List UInt8) (hx : xs.length = 256) (hy : ys.length = 256) (w : World) : (Op.equalIn 10000 37 (.agg (bv xs).toArray) (.agg (bv ys).toArray)).run Tryd.prog w = .ok (xs == ys) w :=
  run_equalIn_bytes w 9998 37 5 256 (by kernel_rfl) (by kernel_rfl) (fun w => run_sizeOf (tz rfl) w) xs ys hx hy

/-- What Decode tells of a page. -/
def decP (p : List UInt8) : AncP × Int := decV (p.headD 0) p
theorem c_dec (p : List UInt8) (hp : p.length = 256) : Ctr Tryd.prog GW 16 [.agg (bv p).toArray] [] [] (retF fun v Φ' => ∃ a : AncV, v = .tuple #[a.v, vi (decP p).2] ∧ a.mark.key.ok ∧ a.pure = (decP p).1 ∧ Φ' = [a.mark.key.res]) := by
  cases p with
  | nil => cases hp
  | cons n l => exact c_decode n l hp
theorem decP_page {p : List UInt8} (hp : p.length = 256) {a : AncV} (h : decP p = (a.pure, 0)) : a.right = true ∧ a.page = p := by
  cases p with
  | nil => cases hp
  | cons n l => exact dec_page hp h
theorem page_decP (a : AncV) (h : a.right = true) : decP a.page = (a.pure, 0) := by
  have e := page_head a (right_key a h)
  have : a.page.headD 0 = 65 := by rw [e]; rfl
  unfold decP
  rw [this]
  exact page_dec a h
theorem decP_or (p : List UInt8) : (decP p).2 = 0 ∨ decP p = (AncP.zero, 50) := dec_or _ p
theorem right_tx (a : AncV) (h : a.right = true) : 1 ≤ (a.tx.toNat : Int) ∧ (a.tx.toNat : Int) ≤ 1073741824 := by
  have hf : a.fine = true := by
    unfold AncV.right at h
    split at h
    · exact (Bool.and_eq_true _ _ ▸ h).1
    · exact (Bool.and_eq_true _ _ ▸ h).1
  simp only [AncV.fine, Bool.and_eq_true, decide_eq_true_eq] at hf
  exact ⟨hf.1, hf.2.1⟩

theorem c_lawJust (p : List UInt8) (hp : p.length = 256) : Ctr Tryd.prog GW 4 [.agg (bv p).toArray] [] [] (ret1 (vb true)) := by
  have hbp : (bv p).length = 256 := by rw [bv_len]; exact hp
  refine Ctr.intro Tryd.func4 (by kernel_rfl) rfl Tryd.ntmps4 rfl rfl rfl fun w X => ?_
  refine sw_seq ?_
  refine sw_region ?_
  refine r_box (cs := bv p) (by exact rfl) rfl (by exact rfl) fun b1 => ?_
  refine r_assign (k := ?_)
  refine sl_nil ?_
  refine sp_then ?_
  refine sw_seq ?_
  refine sw_region ?_
  refine r_load_all (cs := bv p) (by exact tz rfl) (by exact rfl) (by first | exact .head _ | exact .tail _ (.head _) | exact .tail _ (.tail _ (.head _)) | exact .tail _ (.tail _ (.tail _ (.head _))) | exact .tail _ (.tail _ (.tail _ (.tail _ (.head _)))) | exact .tail _ (.tail _ (.tail _ (.tail _ (.tail _ (.head _))))) | exact .tail _ (.tail _ (.tail _ (.tail _ (.tail _ (.tail _ (.head _)))))) | exact .tail _ (.tail _ (.tail _ (.tail _ (.tail _ (.tail _ (.tail _ (.head _))))))) | exact .tail _ (.tail _ (.tail _ (.tail _ (.tail _ (.tail _ (.tail _ (.tail _ (.head _)))))))) | exact .tail _ (.tail _ (.tail _ (.tail _ (.tail _ (.tail _ (.tail _ (.tail _ (.tail _ (.head _))))))))) | exact .tail _ (.tail _ (.tail _ (.tail _ (.tail _ (.tail _ (.tail _ (.tail _ (.tail _ (.tail _ (.head _)))))))))) | exact .tail _ (.tail _ (.tail _ (.tail _ (.tail _ (.tail _ (.tail _ (.tail _ (.tail _ (.tail _ (.tail _ (.head _)))))))))))) hbp (by exact rfl) ?_
  refine r_callF (c_dec p hp) (by exact rfl) (by exact rfl) (by exact rfl) (by simp) (by exact rfl) ?_
  rintro _ _ ⟨a, rfl, hok, hpure, rfl⟩
  rcases decP_or p with h0 | h50
  · have hd : decP p = (a.pure, 0) := by rw [hpure, ← h0]
    obtain ⟨hr, hpg⟩ := decP_page hp hd
    rw [h0]
    refine r_move (k := ?_)
    refine r_ext (k := ?_)
    refine r_ext (k := ?_)
    refine r_alloc (by exact z32) (cs := zeroA.cs) (by kernel_rfl) (by exact rfl) fun b3 => ?_
    refine r_store_all (cs := zeroA.cs) (vs := a.cs) (by exact tz rfl) (by exact rfl) (by exact rfl) (by first | exact .hd | exact .tl (.hd) | exact .tl (.tl (.hd)) | exact .tl (.tl (.tl (.hd))) | exact .tl (.tl (.tl (.tl (.hd)))) | exact .tl (.tl (.tl (.tl (.tl (.hd))))) | exact .tl (.tl (.tl (.tl (.tl (.tl (.hd)))))) | exact .tl (.tl (.tl (.tl (.tl (.tl (.tl (.hd))))))) | exact .tl (.tl (.tl (.tl (.tl (.tl (.tl (.tl (.hd)))))))) | exact .tl (.tl (.tl (.tl (.tl (.tl (.tl (.tl (.tl (.hd))))))))) | exact .tl (.tl (.tl (.tl (.tl (.tl (.tl (.tl (.tl (.tl (.hd)))))))))) | exact .tl (.tl (.tl (.tl (.tl (.tl (.tl (.tl (.tl (.tl (.tl (.hd)))))))))))) rfl rfl rfl rfl ?_
    refine r_assign (k := ?_)
    refine sl_nil ?_
    refine sp_then ?_
    refine sw_seq ?_
    refine sw_seq ?_
    refine sw_region ?_
    refine r_move (k := ?_)
    refine r_neq (k := ?_)
    refine sl_nil ?_
    refine sp_then ?_
    refine swd_f (b := decide ((0 : Int) ≠ 0)) rfl rfl ?_
    refine sw_skip ?_
    refine sp_then ?_
    refine sw_seq ?_
    refine sw_region ?_
    refine r_load_all (k := ?_)
    have henc := c_encode a hok
    rw [show encV a = (p, 0) by unfold encV; rw [if_pos hr, hpg]] at henc
    refine r_call1 henc (by exact rfl) (by exact rfl) (by exact rfl) (by simp) (by exact rfl) ?_
    refine r_move (k := ?_)
    refine r_ext (k := ?_)
    refine r_ext (k := ?_)
    refine r_alloc (by exact z37) (cs := bv (zeros 256)) (by kernel_rfl) (by exact rfl) fun b5 => ?_
    refine r_store_all (cs := bv (zeros 256)) (vs := bv p) (by exact tz rfl) (by exact rfl) (by exact rfl) (by first | exact .hd | exact .tl (.hd) | exact .tl (.tl (.hd)) | exact .tl (.tl (.tl (.hd))) | exact .tl (.tl (.tl (.tl (.hd)))) | exact .tl (.tl (.tl (.tl (.tl (.hd))))) | exact .tl (.tl (.tl (.tl (.tl (.tl (.hd)))))) | exact .tl (.tl (.tl (.tl (.tl (.tl (.tl (.hd))))))) | exact .tl (.tl (.tl (.tl (.tl (.tl (.tl (.tl (.hd)))))))) | exact .tl (.tl (.tl (.tl (.tl (.tl (.tl (.tl (.tl (.hd))))))))) | exact .tl (.tl (.tl (.tl (.tl (.tl (.tl (.tl (.tl (.tl (.hd)))))))))) | exact .tl (.tl (.tl (.tl (.tl (.tl (.tl (.tl (.tl (.tl (.tl (.hd)))))))))))) rfl hbp (bv_one _) (by rw [bv_len]; rfl) ?_
    refine r_assign (k := ?_)
    refine sl_nil ?_
    refine sp_then ?_
    refine sw_seq ?_
    refine sw_region ?_
    refine r_move (k := ?_)
    refine r_eql (k := ?_)
    refine r_move (k := ?_)
    refine r_re (t := 31) (v' := vb true) rfl rfl ?_
    refine gd_yes (k := ?_)
    refine r_load_all (cs := bv p) (by exact tz rfl) (by exact rfl) (by first | exact .head _ | exact .tail _ (.head _) | exact .tail _ (.tail _ (.head _)) | exact .tail _ (.tail _ (.tail _ (.head _))) | exact .tail _ (.tail _ (.tail _ (.tail _ (.head _)))) | exact .tail _ (.tail _ (.tail _ (.tail _ (.tail _ (.head _))))) | exact .tail _ (.tail _ (.tail _ (.tail _ (.tail _ (.tail _ (.head _)))))) | exact .tail _ (.tail _ (.tail _ (.tail _ (.tail _ (.tail _ (.tail _ (.head _))))))) | exact .tail _ (.tail _ (.tail _ (.tail _ (.tail _ (.tail _ (.tail _ (.tail _ (.head _)))))))) | exact .tail _ (.tail _ (.tail _ (.tail _ (.tail _ (.tail _ (.tail _ (.tail _ (.tail _ (.head _))))))))) | exact .tail _ (.tail _ (.tail _ (.tail _ (.tail _ (.tail _ (.tail _ (.tail _ (.tail _ (.tail _ (.head _)))))))))) | exact .tail _ (.tail _ (.tail _ (.tail _ (.tail _ (.tail _ (.tail _ (.tail _ (.tail _ (.tail _ (.tail _ (.head _)))))))))))) hbp (by exact rfl) ?_
    refine gd_yes (k := ?_)
    refine r_load_all (cs := bv p) (by exact tz rfl) (by exact rfl) (by first | exact .head _ | exact .tail _ (.head _) | exact .tail _ (.tail _ (.head _)) | exact .tail _ (.tail _ (.tail _ (.head _))) | exact .tail _ (.tail _ (.tail _ (.tail _ (.head _)))) | exact .tail _ (.tail _ (.tail _ (.tail _ (.tail _ (.head _))))) | exact .tail _ (.tail _ (.tail _ (.tail _ (.tail _ (.tail _ (.head _)))))) | exact .tail _ (.tail _ (.tail _ (.tail _ (.tail _ (.tail _ (.tail _ (.head _))))))) | exact .tail _ (.tail _ (.tail _ (.tail _ (.tail _ (.tail _ (.tail _ (.tail _ (.head _)))))))) | exact .tail _ (.tail _ (.tail _ (.tail _ (.tail _ (.tail _ (.tail _ (.tail _ (.tail _ (.head _))))))))) | exact .tail _ (.tail _ (.tail _ (.tail _ (.tail _ (.tail _ (.tail _ (.tail _ (.tail _ (.tail _ (.head _)))))))))) | exact .tail _ (.tail _ (.tail _ (.tail _ (.tail _ (.tail _ (.tail _ (.tail _ (.tail _ (.tail _ (.tail _ (.head _)))))))))))) hbp (by exact rfl) ?_
    refine gd_yes (k := ?_)
    refine r_eqagg (xs := (bv p).toArray) (ys := (bv p).toArray) (by exact rfl) (by exact rfl) (by kernel_rfl) (page_eq p p hp hp) (by exact rfl) ?_
    refine r_re (t := 34) (v' := vb true) rfl (by rw [beq_self_eq_true]) ?_
    refine rd_pick_t (k := ?_)
    refine r_move (k := ?_)
    refine gd_yes (k := ?_)
    refine r_load_all (k := ?_)
    refine gd_yes (k := ?_)
    have hr1 := c_right GW a
    rw [hr] at hr1
    refine r_call1 hr1 (by exact rfl) (by exact rfl) (by exact rfl) (by simp) (by exact rfl) ?_
    refine rd_pick_t (k := ?_)
    refine r_move (k := ?_)
    refine gd_yes (k := ?_)
    refine r_fieldAddr (k := ?_)
    refine gd_yes (k := ?_)
    refine r_load_one (k := ?_)
    refine gd_yes (k := ?_)
    refine r_geq (k := ?_)
    refine rd_pick_t (k := ?_)
    refine r_move (k := ?_)
    refine r_re (t := 45) (v' := vb true) rfl (by rw [decide_eq_true (right_tx a hr).1]) ?_
    refine gd_yes (k := ?_)
    refine r_call1 c_wakes (by exact rfl) (by exact rfl) (by exact rfl) (by simp) (by exact rfl) ?_
    refine rd_pick_t (k := ?_)
    refine r_assign (k := ?_)
    refine sl_nil ?_
    refine sp_then ?_
    refine sw_ret ?_
    refine sp_retv rfl rfl (.tmp rfl) rfl rfl ⟨rfl, rfl, rfl⟩ (by simp) rfl (by simp)
  · have hz : sameV a zeroA = true := (sameV_iff _ _).2 (by rw [hpure, h50]; rfl)
    have hcs := c_rsame GW a zeroA
    rw [hz] at hcs
    rw [h50]
    refine r_move (k := ?_)
    refine r_ext (k := ?_)
    refine r_ext (k := ?_)
    refine r_alloc (by exact z32) (cs := zeroA.cs) (by kernel_rfl) (by exact rfl) fun b3 => ?_
    refine r_store_all (cs := zeroA.cs) (vs := a.cs) (by exact tz rfl) (by exact rfl) (by exact rfl) (by first | exact .hd | exact .tl (.hd) | exact .tl (.tl (.hd)) | exact .tl (.tl (.tl (.hd))) | exact .tl (.tl (.tl (.tl (.hd)))) | exact .tl (.tl (.tl (.tl (.tl (.hd))))) | exact .tl (.tl (.tl (.tl (.tl (.tl (.hd)))))) | exact .tl (.tl (.tl (.tl (.tl (.tl (.tl (.hd))))))) | exact .tl (.tl (.tl (.tl (.tl (.tl (.tl (.tl (.hd)))))))) | exact .tl (.tl (.tl (.tl (.tl (.tl (.tl (.tl (.tl (.hd))))))))) | exact .tl (.tl (.tl (.tl (.tl (.tl (.tl (.tl (.tl (.tl (.hd)))))))))) | exact .tl (.tl (.tl (.tl (.tl (.tl (.tl (.tl (.tl (.tl (.tl (.hd)))))))))))) rfl rfl rfl rfl ?_
    refine r_assign (k := ?_)
    refine sl_nil ?_
    refine sp_then ?_
    refine sw_seq ?_
    refine sw_seq ?_
    refine sw_region ?_
    refine r_move (k := ?_)
    refine r_neq (k := ?_)
    refine sl_nil ?_
    refine sp_then ?_
    refine swd_t (b := decide ((50 : Int) ≠ 0)) rfl rfl ?_
    refine sw_seq ?_
    refine sw_region ?_
    refine r_move (k := ?_)
    refine r_eql (k := ?_)
    refine r_move (k := ?_)
    refine r_re (t := 16) (v' := vb true) rfl rfl ?_
    refine gd_yes (k := ?_)
    refine r_load_all (k := ?_)
    refine gd_yes (k := ?_)
    refine r_buildP zeroA.cs (parts := []) (by exact rfl) (by kernel_rfl) (by exact rfl) ?_
    refine f_have (φ := BS.nil.res) (fun V w hw => nil_res) ?_
    refine gd_yes (k := ?_)
    refine r_call1 hcs (by exact rfl) (by exact rfl) (by exact rfl) (PhAll.all (by repeat' (first | trivial | exact .head _ | exact .tail _ (.head _) | exact .tail _ (.tail _ (.head _)) | exact .tail _ (.tail _ (.tail _ (.head _))) | exact .tail _ (.tail _ (.tail _ (.tail _ (.head _)))) | exact .tail _ (.tail _ (.tail _ (.tail _ (.tail _ (.head _))))) | exact .tail _ (.tail _ (.tail _ (.tail _ (.tail _ (.tail _ (.head _)))))) | exact .tail _ (.tail _ (.tail _ (.tail _ (.tail _ (.tail _ (.tail _ (.head _))))))) | exact .tail _ (.tail _ (.tail _ (.tail _ (.tail _ (.tail _ (.tail _ (.tail _ (.head _)))))))) | exact .tail _ (.tail _ (.tail _ (.tail _ (.tail _ (.tail _ (.tail _ (.tail _ (.tail _ (.head _))))))))) | exact .tail _ (.tail _ (.tail _ (.tail _ (.tail _ (.tail _ (.tail _ (.tail _ (.tail _ (.tail _ (.head _)))))))))) | exact .tail _ (.tail _ (.tail _ (.tail _ (.tail _ (.tail _ (.tail _ (.tail _ (.tail _ (.tail _ (.tail _ (.head _))))))))))) | apply And.intro))) (by exact rfl) ?_
    refine rd_pick_t (k := ?_)
    refine r_move (k := ?_)
    refine gd_yes (k := ?_)
    refine r_call1 c_wakes (by exact rfl) (by exact rfl) (by exact rfl) (by simp) (by exact rfl) ?_
    refine rd_pick_t (k := ?_)
    refine r_assign (k := ?_)
    refine sl_nil ?_
    refine sp_then ?_
    refine sw_ret ?_
    refine sp_then_ret ?_
    refine sp_retv rfl rfl (.tmp rfl) rfl rfl ⟨rfl, rfl, rfl⟩ (by simp) rfl (by simp)
end Go.Proofs.YtjahiohlekdhoaaDoor

namespace Go.Proofs.YtjahiohlekdhoaaDoor
open Go
set_option maxHeartbeats 4000000
set_option maxRecDepth 4000
attribute [local irreducible] SW SL SP RA Then FQ IQ LoopQ RQ AQ NX CutQ Exit.noGoto

def fitsS (a : AncP) (d : DiskP) (n : Nat) : Bool := decide ((a.tx % 4).toNat = n) && decide (a.size.toNat = d.pages.length)
/-- What a slot of a disk tells. -/
def DiskP.slot (d : DiskP) (n : Nat) : AncP := if d.off then AncP.zero else if (d.read n).2 = 0 then (if (decP (d.read n).1).2 = 0 ∧ fitsS (decP (d.read n).1).1 d n = true then (decP (d.read n).1).1 else AncP.zero) else AncP.zero
theorem read_len {d : DiskP} (h : d.fine) {n : Nat} (hn : n < d.pages.length) : (d.read n).1.length = 256 := by
  unfold DiskP.read
  split
  · rename_i p l e
    exact lasts_len (fun x hx => h.cd x (List.mem_reverse.1 hx)) (by rw [e]; exact .head _)
  · split
    · simp
    · show (d.pages.getD n []).length = 256
      rw [show d.pages.getD n [] = d.pages[n] by simp [List.getD, hn]]
      exact h.pg _ (List.getElem_mem hn)
def retA (a : AncP) : PostC := retF fun v Φ' => ∃ x : AncV, v = x.v ∧ x.mark.key.ok ∧ x.pure = a ∧ Φ' = [x.mark.key.res]
theorem c_rslot (d : DiskV) (hd : d.ok) (n : Nat) (hlt : n < 4) : Ctr Tryd.prog GW 78 [d.v, vi (n : Int)] [] [d.rp, d.rc, d.rb] (retA (d.pure.slot n)) := by
  have hn0 : 32 ≤ d.pages.xs.length := hd.f.n0
  refine Ctr.intro Tryd.func78 (by kernel_rfl) rfl Tryd.ntmps78 rfl rfl rfl fun w' X => ?_
  refine sw_seq ?_
  refine sw_region ?_
  refine r_box (cs := d.cs) (by exact rfl) rfl (by exact rfl) fun b2 => ?_
  refine r_alloc (by exact z32) (cs := zeroA.cs) (by kernel_rfl) (by exact rfl) fun b4 => ?_
  refine sl_nil ?_
  refine sp_then ?_
  refine sw_seq ?_
  refine sw_seq ?_
  refine sw_region ?_
  refine r_fieldAddr (k := ?_)
  refine r_load_one (k := ?_)
  refine sl_nil ?_
  refine sp_then ?_
  refine w_have (φ := BS.nil.res) (fun V w _ i v hv => by simp [BS.nil, bv] at hv) ?_
  have hz : zeroA.pure = AncP.zero := rfl
  cases ho : d.off
  · refine w_re (t := 10) (v' := vb false) rfl rfl ?_
    have hop : d.pure.off = false := ho
    refine swd_f (h := ?_)
    refine sw_skip ?_
    refine sp_then ?_
    refine sw_seq ?_
    refine sw_region ?_
    refine r_load_all (k := ?_)
    refine r_move (k := ?_)
    refine r_call1 (c_vread GW d hd ho n (by omega)) (by exact rfl) (by exact rfl) (by exact rfl) (PhAll.all (by repeat' (first | trivial | exact .head _ | exact .tail _ (.head _) | exact .tail _ (.tail _ (.head _)) | exact .tail _ (.tail _ (.tail _ (.head _))) | exact .tail _ (.tail _ (.tail _ (.tail _ (.head _)))) | exact .tail _ (.tail _ (.tail _ (.tail _ (.tail _ (.head _))))) | exact .tail _ (.tail _ (.tail _ (.tail _ (.tail _ (.tail _ (.head _)))))) | exact .tail _ (.tail _ (.tail _ (.tail _ (.tail _ (.tail _ (.tail _ (.head _))))))) | exact .tail _ (.tail _ (.tail _ (.tail _ (.tail _ (.tail _ (.tail _ (.tail _ (.head _)))))))) | exact .tail _ (.tail _ (.tail _ (.tail _ (.tail _ (.tail _ (.tail _ (.tail _ (.tail _ (.head _))))))))) | exact .tail _ (.tail _ (.tail _ (.tail _ (.tail _ (.tail _ (.tail _ (.tail _ (.tail _ (.tail _ (.head _)))))))))) | exact .tail _ (.tail _ (.tail _ (.tail _ (.tail _ (.tail _ (.tail _ (.tail _ (.tail _ (.tail _ (.tail _ (.head _))))))))))) | apply And.intro))) (by exact rfl) ?_
    refine r_move (k := ?_)
    refine r_ext (k := ?_)
    refine r_ext (k := ?_)
    have hl := read_len hd.f (show n < d.pure.pages.length from (by show n < d.pages.xs.length; omega))
    have hl1 : (bv (d.pure.read n).1).length = 256 := by rw [bv_len, hl]
    refine r_alloc (by exact z37) (cs := bv (List.replicate 256 0)) (by kernel_rfl) (by exact rfl) fun b5 => ?_
    refine r_store_all (cs := bv (List.replicate 256 0)) (vs := bv (d.pure.read n).1) (by exact tz rfl) (by exact rfl) (by exact rfl) (by first | exact .hd | exact .tl (.hd) | exact .tl (.tl (.hd)) | exact .tl (.tl (.tl (.hd))) | exact .tl (.tl (.tl (.tl (.hd)))) | exact .tl (.tl (.tl (.tl (.tl (.hd))))) | exact .tl (.tl (.tl (.tl (.tl (.tl (.hd)))))) | exact .tl (.tl (.tl (.tl (.tl (.tl (.tl (.hd))))))) | exact .tl (.tl (.tl (.tl (.tl (.tl (.tl (.tl (.hd)))))))) | exact .tl (.tl (.tl (.tl (.tl (.tl (.tl (.tl (.tl (.hd))))))))) | exact .tl (.tl (.tl (.tl (.tl (.tl (.tl (.tl (.tl (.tl (.hd)))))))))) | exact .tl (.tl (.tl (.tl (.tl (.tl (.tl (.tl (.tl (.tl (.tl (.hd)))))))))))) rfl hl1 (bv_one _) rfl ?_
    refine r_assign (k := ?_)
    refine sl_nil ?_
    refine sp_then ?_
    refine sw_seq ?_
    refine sw_seq ?_
    refine sw_region ?_
    refine r_move (k := ?_)
    refine r_neq (k := ?_)
    refine sl_nil ?_
    refine sp_then ?_
    refine sw_cond rfl (fun h => ?_) (fun h => ?_)
    · have h := of_decide_eq_true h
      have hs : d.pure.slot n = AncP.zero := by unfold DiskP.slot; rw [if_neg (by rw [hop]; decide), if_neg h]
      refine sw_seq ?_
      refine sw_region ?_
      refine r_load_all (k := ?_)
      refine r_store_all (k := ?_)
      refine sl_nil ?_
      refine sp_then ?_
      refine sw_ret ?_
      refine sp_then_ret ?_
      refine sp_retv rfl rfl (.agg rfl (tz rfl) rfl (.tail _ (.head _))) rfl rfl ⟨rfl, zeroA, rfl, ⟨Nat.le_refl _, Nat.zero_le _⟩, by rw [hs, hz], rfl⟩ (by simp) rfl (PhAll.all (by repeat' (first | trivial | exact .head _ | exact .tail _ (.head _) | exact .tail _ (.tail _ (.head _)) | exact .tail _ (.tail _ (.tail _ (.head _))) | exact .tail _ (.tail _ (.tail _ (.tail _ (.head _)))) | exact .tail _ (.tail _ (.tail _ (.tail _ (.tail _ (.head _))))) | exact .tail _ (.tail _ (.tail _ (.tail _ (.tail _ (.tail _ (.head _)))))) | exact .tail _ (.tail _ (.tail _ (.tail _ (.tail _ (.tail _ (.tail _ (.head _))))))) | exact .tail _ (.tail _ (.tail _ (.tail _ (.tail _ (.tail _ (.tail _ (.tail _ (.head _)))))))) | exact .tail _ (.tail _ (.tail _ (.tail _ (.tail _ (.tail _ (.tail _ (.tail _ (.tail _ (.head _))))))))) | exact .tail _ (.tail _ (.tail _ (.tail _ (.tail _ (.tail _ (.tail _ (.tail _ (.tail _ (.tail _ (.head _)))))))))) | exact .tail _ (.tail _ (.tail _ (.tail _ (.tail _ (.tail _ (.tail _ (.tail _ (.tail _ (.tail _ (.tail _ (.head _))))))))))) | apply And.intro)))
    · have h : (d.pure.read n).2 = 0 := by
        have := of_decide_eq_false h
        exact Classical.not_not.1 this
      refine sw_skip ?_
      refine sp_then ?_
      refine sw_seq ?_
      refine sw_seq ?_
      refine sw_region ?_
      refine r_load_all (cs := bv (d.pure.read n).1) (by exact tz rfl) (by exact rfl) (by first | exact .head _ | exact .tail _ (.head _) | exact .tail _ (.tail _ (.head _)) | exact .tail _ (.tail _ (.tail _ (.head _))) | exact .tail _ (.tail _ (.tail _ (.tail _ (.head _)))) | exact .tail _ (.tail _ (.tail _ (.tail _ (.tail _ (.head _))))) | exact .tail _ (.tail _ (.tail _ (.tail _ (.tail _ (.tail _ (.head _)))))) | exact .tail _ (.tail _ (.tail _ (.tail _ (.tail _ (.tail _ (.tail _ (.head _))))))) | exact .tail _ (.tail _ (.tail _ (.tail _ (.tail _ (.tail _ (.tail _ (.tail _ (.head _)))))))) | exact .tail _ (.tail _ (.tail _ (.tail _ (.tail _ (.tail _ (.tail _ (.tail _ (.tail _ (.head _))))))))) | exact .tail _ (.tail _ (.tail _ (.tail _ (.tail _ (.tail _ (.tail _ (.tail _ (.tail _ (.tail _ (.head _)))))))))) | exact .tail _ (.tail _ (.tail _ (.tail _ (.tail _ (.tail _ (.tail _ (.tail _ (.tail _ (.tail _ (.tail _ (.head _)))))))))))) hl1 (by exact rfl) ?_
      refine r_callF (c_dec _ hl) (by exact rfl) (by exact rfl) (by exact rfl) (by simp) (by exact rfl) ?_
      rintro _ _ ⟨a, rfl, ha1, ha2, rfl⟩
      refine r_move (k := ?_)
      refine r_ext (k := ?_)
      refine r_ext (k := ?_)
      refine r_alloc (by exact z32) (cs := zeroA.cs) (by kernel_rfl) (by exact rfl) fun b7 => ?_
      refine r_store_all (k := ?_)
      refine r_assign (k := ?_)
      refine sl_nil ?_
      refine sp_then ?_
      refine sw_seq ?_
      refine sw_region ?_
      refine r_move (k := ?_)
      refine r_eql (k := ?_)
      refine r_move (k := ?_)
      have hs : d.pure.slot n = if (decP (d.pure.read n).1).2 = 0 ∧ fitsS a.pure d.pure n = true then a.pure else AncP.zero := by
        unfold DiskP.slot; rw [if_neg (by rw [hop]; decide), if_pos h, ha2]
      by_cases e1 : (decP (d.pure.read n).1).2 = 0
      · refine r_re (t := 28) (v' := vb true) rfl (by rw [decide_eq_true e1]) ?_
        refine gd_yes (k := ?_)
        refine r_fieldAddr (k := ?_)
        refine gd_yes (k := ?_)
        refine r_load_one (k := ?_)
        refine gd_yes (k := ?_)
        refine r_call1 (c_slot GW a.tx) (by exact rfl) (by exact rfl) (by exact rfl) (by simp) (by exact rfl) ?_
        refine gd_yes (k := ?_)
        refine r_move (k := ?_)
        refine gd_yes (k := ?_)
        refine r_eql (k := ?_)
        refine rd_pick_t (k := ?_)
        refine r_move (k := ?_)
        by_cases e2 : ((a.tx % 4).toNat : Int) = (n : Int)
        · refine r_re (t := 35) (v' := vb true) rfl (by rw [decide_eq_true e2]) ?_
          refine gd_yes (k := ?_)
          refine r_fieldAddr (k := ?_)
          refine gd_yes (k := ?_)
          refine r_load_one (k := ?_)
          refine gd_yes (k := ?_)
          refine r_cv_16_i (k := ?_)
          refine gd_yes (k := ?_)
          refine r_fieldAddr (k := ?_)
          refine gd_yes (k := ?_)
          refine r_load_one (k := ?_)
          refine gd_yes (k := ?_)
          refine r_len (k := ?_)
          refine gd_yes (k := ?_)
          refine r_eql (k := ?_)
          refine rd_pick_t (k := ?_)
          refine sl_nil ?_
          refine sp_then ?_
          refine sw_cond rfl (fun h => ?_) (fun h => ?_)
          · have h := of_decide_eq_true h
            have hf : d.pure.slot n = a.pure := by
              rw [hs, if_pos ⟨e1, by simp only [fitsS, Bool.and_eq_true, decide_eq_true_eq]; exact ⟨Int.ofNat.inj e2, Int.ofNat.inj h⟩⟩]
            refine sw_region ?_
            refine r_load_all (k := ?_)
            refine r_store_all (k := ?_)
            refine sl_nil ?_
            refine sp_then ?_
            refine sw_seq ?_
            refine sw_region ?_
            refine r_load_all (k := ?_)
            refine r_store_all (k := ?_)
            refine sl_nil ?_
            refine sp_then ?_
            refine sw_ret ?_
            refine sp_retv rfl rfl (.agg rfl (tz rfl) rfl (.tail _ (.tail _ (.head _)))) rfl rfl ⟨rfl, a, rfl, ha1, hf.symm, rfl⟩ (by simp) rfl (PhAll.all (by repeat' (first | trivial | exact .head _ | exact .tail _ (.head _) | exact .tail _ (.tail _ (.head _)) | exact .tail _ (.tail _ (.tail _ (.head _))) | exact .tail _ (.tail _ (.tail _ (.tail _ (.head _)))) | exact .tail _ (.tail _ (.tail _ (.tail _ (.tail _ (.head _))))) | exact .tail _ (.tail _ (.tail _ (.tail _ (.tail _ (.tail _ (.head _)))))) | exact .tail _ (.tail _ (.tail _ (.tail _ (.tail _ (.tail _ (.tail _ (.head _))))))) | exact .tail _ (.tail _ (.tail _ (.tail _ (.tail _ (.tail _ (.tail _ (.tail _ (.head _)))))))) | exact .tail _ (.tail _ (.tail _ (.tail _ (.tail _ (.tail _ (.tail _ (.tail _ (.tail _ (.head _))))))))) | exact .tail _ (.tail _ (.tail _ (.tail _ (.tail _ (.tail _ (.tail _ (.tail _ (.tail _ (.tail _ (.head _)))))))))) | exact .tail _ (.tail _ (.tail _ (.tail _ (.tail _ (.tail _ (.tail _ (.tail _ (.tail _ (.tail _ (.tail _ (.head _))))))))))) | apply And.intro)))
          · have h := of_decide_eq_false h
            have hf : d.pure.slot n = AncP.zero := by
              rw [hs, if_neg fun q => ?_]
              have q2 := q.2
              simp only [fitsS, Bool.and_eq_true, decide_eq_true_eq] at q2
              exact h (congrArg Int.ofNat q2.2)
            refine sw_skip ?_
            refine sp_then ?_
            refine sw_seq ?_
            refine sw_region ?_
            refine r_load_all (k := ?_)
            refine r_store_all (k := ?_)
            refine sl_nil ?_
            refine sp_then ?_
            refine sw_ret ?_
            refine sp_retv rfl rfl (.agg rfl (tz rfl) rfl (.tail _ (.tail _ (.head _)))) rfl rfl ⟨rfl, zeroA, rfl, ⟨Nat.le_refl _, Nat.zero_le _⟩, by rw [hf, hz], rfl⟩ (by simp) rfl (PhAll.all (by repeat' (first | trivial | exact .head _ | exact .tail _ (.head _) | exact .tail _ (.tail _ (.head _)) | exact .tail _ (.tail _ (.tail _ (.head _))) | exact .tail _ (.tail _ (.tail _ (.tail _ (.head _)))) | exact .tail _ (.tail _ (.tail _ (.tail _ (.tail _ (.head _))))) | exact .tail _ (.tail _ (.tail _ (.tail _ (.tail _ (.tail _ (.head _)))))) | exact .tail _ (.tail _ (.tail _ (.tail _ (.tail _ (.tail _ (.tail _ (.head _))))))) | exact .tail _ (.tail _ (.tail _ (.tail _ (.tail _ (.tail _ (.tail _ (.tail _ (.head _)))))))) | exact .tail _ (.tail _ (.tail _ (.tail _ (.tail _ (.tail _ (.tail _ (.tail _ (.tail _ (.head _))))))))) | exact .tail _ (.tail _ (.tail _ (.tail _ (.tail _ (.tail _ (.tail _ (.tail _ (.tail _ (.tail _ (.head _)))))))))) | exact .tail _ (.tail _ (.tail _ (.tail _ (.tail _ (.tail _ (.tail _ (.tail _ (.tail _ (.tail _ (.tail _ (.head _))))))))))) | apply And.intro)))
        · refine r_re (t := 35) (v' := vb false) rfl (by rw [decide_eq_false e2]) ?_
          have hf : d.pure.slot n = AncP.zero := by
            rw [hs, if_neg fun q => ?_]
            have q2 := q.2
            simp only [fitsS, Bool.and_eq_true, decide_eq_true_eq] at q2
            exact e2 (congrArg Int.ofNat q2.1)
          refine gd_no (k := ?_)
          refine gd_no (k := ?_)
          refine gd_no (k := ?_)
          refine gd_no (k := ?_)
          refine gd_no (k := ?_)
          refine gd_no (k := ?_)
          refine gd_no (k := ?_)
          refine rd_pick_f (k := ?_)
          refine sl_nil ?_
          refine sp_then ?_
          refine swd_f (h := ?_)
          refine sw_skip ?_
          refine sp_then ?_
          refine sw_seq ?_
          refine sw_region ?_
          refine r_load_all (k := ?_)
          refine r_store_all (k := ?_)
          refine sl_nil ?_
          refine sp_then ?_
          refine sw_ret ?_
          refine sp_retv rfl rfl (.agg rfl (tz rfl) rfl (.tail _ (.tail _ (.head _)))) rfl rfl ⟨rfl, zeroA, rfl, ⟨Nat.le_refl _, Nat.zero_le _⟩, by rw [hf, hz], rfl⟩ (by simp) rfl (PhAll.all (by repeat' (first | trivial | exact .head _ | exact .tail _ (.head _) | exact .tail _ (.tail _ (.head _)) | exact .tail _ (.tail _ (.tail _ (.head _))) | exact .tail _ (.tail _ (.tail _ (.tail _ (.head _)))) | exact .tail _ (.tail _ (.tail _ (.tail _ (.tail _ (.head _))))) | exact .tail _ (.tail _ (.tail _ (.tail _ (.tail _ (.tail _ (.head _)))))) | exact .tail _ (.tail _ (.tail _ (.tail _ (.tail _ (.tail _ (.tail _ (.head _))))))) | exact .tail _ (.tail _ (.tail _ (.tail _ (.tail _ (.tail _ (.tail _ (.tail _ (.head _)))))))) | exact .tail _ (.tail _ (.tail _ (.tail _ (.tail _ (.tail _ (.tail _ (.tail _ (.tail _ (.head _))))))))) | exact .tail _ (.tail _ (.tail _ (.tail _ (.tail _ (.tail _ (.tail _ (.tail _ (.tail _ (.tail _ (.head _)))))))))) | exact .tail _ (.tail _ (.tail _ (.tail _ (.tail _ (.tail _ (.tail _ (.tail _ (.tail _ (.tail _ (.tail _ (.head _))))))))))) | apply And.intro)))
      · refine r_re (t := 28) (v' := vb false) rfl (by rw [decide_eq_false e1]) ?_
        have hf : d.pure.slot n = AncP.zero := by rw [hs, if_neg fun q => e1 q.1]
        refine gd_no (k := ?_)
        refine gd_no (k := ?_)
        refine gd_no (k := ?_)
        refine gd_no (k := ?_)
        refine gd_no (k := ?_)
        refine rd_pick_f (k := ?_)
        refine r_move (k := ?_)
        refine gd_no (k := ?_)
        refine gd_no (k := ?_)
        refine gd_no (k := ?_)
        refine gd_no (k := ?_)
        refine gd_no (k := ?_)
        refine gd_no (k := ?_)
        refine gd_no (k := ?_)
        refine rd_pick_f (k := ?_)
        refine sl_nil ?_
        refine sp_then ?_
        refine swd_f (h := ?_)
        refine sw_skip ?_
        refine sp_then ?_
        refine sw_seq ?_
        refine sw_region ?_
        refine r_load_all (k := ?_)
        refine r_store_all (k := ?_)
        refine sl_nil ?_
        refine sp_then ?_
        refine sw_ret ?_
        refine sp_retv rfl rfl (.agg rfl (tz rfl) rfl (.tail _ (.tail _ (.head _)))) rfl rfl ⟨rfl, zeroA, rfl, ⟨Nat.le_refl _, Nat.zero_le _⟩, by rw [hf, hz], rfl⟩ (by simp) rfl (PhAll.all (by repeat' (first | trivial | exact .head _ | exact .tail _ (.head _) | exact .tail _ (.tail _ (.head _)) | exact .tail _ (.tail _ (.tail _ (.head _))) | exact .tail _ (.tail _ (.tail _ (.tail _ (.head _)))) | exact .tail _ (.tail _ (.tail _ (.tail _ (.tail _ (.head _))))) | exact .tail _ (.tail _ (.tail _ (.tail _ (.tail _ (.tail _ (.head _)))))) | exact .tail _ (.tail _ (.tail _ (.tail _ (.tail _ (.tail _ (.tail _ (.head _))))))) | exact .tail _ (.tail _ (.tail _ (.tail _ (.tail _ (.tail _ (.tail _ (.tail _ (.head _)))))))) | exact .tail _ (.tail _ (.tail _ (.tail _ (.tail _ (.tail _ (.tail _ (.tail _ (.tail _ (.head _))))))))) | exact .tail _ (.tail _ (.tail _ (.tail _ (.tail _ (.tail _ (.tail _ (.tail _ (.tail _ (.tail _ (.head _)))))))))) | exact .tail _ (.tail _ (.tail _ (.tail _ (.tail _ (.tail _ (.tail _ (.tail _ (.tail _ (.tail _ (.tail _ (.head _))))))))))) | apply And.intro)))
  · refine w_re (t := 10) (v' := vb true) rfl rfl ?_
    have hs : d.pure.slot n = AncP.zero := by unfold DiskP.slot; rw [if_pos (show d.pure.off = true from ho)]
    refine swd_t (h := ?_)
    refine sw_seq ?_
    refine sw_region ?_
    refine r_load_all (k := ?_)
    refine r_store_all (k := ?_)
    refine sl_nil ?_
    refine sp_then ?_
    refine sw_ret ?_
    refine sp_then_ret ?_
    refine sp_retv rfl rfl (.agg rfl (tz rfl) rfl (.head _)) rfl rfl ⟨rfl, zeroA, rfl, ⟨Nat.le_refl _, Nat.zero_le _⟩, by rw [hs, hz], rfl⟩ (by simp) rfl (PhAll.all (by repeat' (first | trivial | exact .head _ | exact .tail _ (.head _) | exact .tail _ (.tail _ (.head _)) | exact .tail _ (.tail _ (.tail _ (.head _))) | exact .tail _ (.tail _ (.tail _ (.tail _ (.head _)))) | exact .tail _ (.tail _ (.tail _ (.tail _ (.tail _ (.head _))))) | exact .tail _ (.tail _ (.tail _ (.tail _ (.tail _ (.tail _ (.head _)))))) | exact .tail _ (.tail _ (.tail _ (.tail _ (.tail _ (.tail _ (.tail _ (.head _))))))) | exact .tail _ (.tail _ (.tail _ (.tail _ (.tail _ (.tail _ (.tail _ (.tail _ (.head _)))))))) | exact .tail _ (.tail _ (.tail _ (.tail _ (.tail _ (.tail _ (.tail _ (.tail _ (.tail _ (.head _))))))))) | exact .tail _ (.tail _ (.tail _ (.tail _ (.tail _ (.tail _ (.tail _ (.tail _ (.tail _ (.tail _ (.head _)))))))))) | exact .tail _ (.tail _ (.tail _ (.tail _ (.tail _ (.tail _ (.tail _ (.tail _ (.tail _ (.tail _ (.tail _ (.head _))))))))))) | apply And.intro)))
end Go.Proofs.YtjahiohlekdhoaaDoor

namespace Go.Proofs.YtjahiohlekdhoaaDoor
open Go
set_option maxHeartbeats 4000000
set_option maxRecDepth 4000
attribute [local irreducible] SW SL SP RA Then FQ IQ LoopQ RQ AQ NX CutQ Exit.noGoto

/-- The laws' anchors. -/
def plainA (tx : UInt32) (size : UInt16) (live : UInt8) (both : UInt32) : AncV := ⟨tx, size, PtrV.none, 0, live, both, ⟨0, 0, 0, BS.nil⟩⟩
theorem c_plain3 (G : Res) (tx : UInt32) (n : Nat) (hn : n ≤ 64) : Ctr Tryd.prog G 33 [v32 tx, vi (n : Int), v8 3] [] [] (ret1 (plainA tx (UInt16.ofNat n) 3 tx).v) := by
  refine Ctr.intro Tryd.func33 (by kernel_rfl) rfl Tryd.ntmps33 rfl rfl rfl fun w' X => ?_
  refine sw_seq ?_
  refine sw_region ?_
  refine r_alloc (by exact z32) (cs := zeroA.cs) (by kernel_rfl) (by exact rfl) fun b6 => ?_
  refine sl_nil ?_
  refine sp_then ?_
  refine sw_seq ?_
  refine sw_region ?_
  refine r_move (k := ?_)
  refine r_assign (k := ?_)
  refine sl_nil ?_
  refine sp_then ?_
  refine sw_seq ?_
  refine sw_seq ?_
  refine sw_region ?_
  refine r_move (k := ?_)
  refine r_neq (k := ?_)
  refine r_move (k := ?_)
  refine r_re (t := 11) (v' := vb false) rfl rfl ?_
  refine gd_no (k := ?_)
  refine gd_no (k := ?_)
  refine rd_pick_f (k := ?_)
  refine sl_nil ?_
  refine sp_then ?_
  refine swd_f (h := ?_)
  refine sw_skip ?_
  refine sp_then ?_
  refine sw_seq ?_
  refine sw_region ?_
  refine r_move (k := ?_)
  refine r_move (k := ?_)
  refine r_cv (r := ((UInt16.ofNat n).toNat : Int)) (by exact ti rfl) (by exact ti rfl) (by exact rfl) (by rw [IntKind.wrap_u16]; simp) (by exact rfl) ?_
  refine r_move (k := ?_)
  refine r_move (k := ?_)
  refine r_buildP (plainA tx (UInt16.ofNat n) 3 tx).cs (parts := [(0, .tmp 17), (1, .tmp 19), (4, .tmp 20), (5, .tmp 21)]) (by exact rfl) (by kernel_rfl) (by exact rfl) ?_
  refine r_store_all (k := ?_)
  refine sl_nil ?_
  refine sp_then ?_
  refine sw_ret ?_
  refine sp_retv rfl rfl (.agg rfl (tz rfl) rfl (.head _)) rfl rfl ⟨rfl, rfl, rfl⟩ (by simp) rfl (by simp)
end Go.Proofs.YtjahiohlekdhoaaDoor

namespace Go.Proofs.YtjahiohlekdhoaaDoor
open Go
set_option maxHeartbeats 4000000
set_option maxRecDepth 4000
attribute [local irreducible] SW SL SP RA Then FQ IQ LoopQ RQ AQ NX CutQ Exit.noGoto

def keysR (A : List AncV) : Res := Res.all A fun a => a.mark.key.res
theorem keys_set {A : List AncV} {a : AncV} {i : Nat} {V : Av} {w : World} (h : (keysR A).p V w) (ha : a.mark.key.res.p V w) : (keysR (A.set i a)).p V w := fun x hx => by
  rcases List.mem_or_eq_of_mem_set hx with h' | h'
  · exact h x h'
  · rw [h']; exact ha
theorem ancsV_set (A : List AncV) (i : Nat) (a : AncV) (h : i < A.length) : splice (ancsV A) (i * 14) a.cs = ancsV (A.set i a) := by
  have e1 : (ancsV A).take (i * 14) = ancsV (A.take i) := by
    have h1 : ancsV A = ancsV (A.take i) ++ ancsV (A.drop i) := by rw [ancsV, ancsV, ancsV, ← List.flatMap_append, List.take_append_drop]
    have h2 : (ancsV (A.take i)).length = i * 14 := by rw [ancsV_len, List.length_take, Nat.min_eq_left (by omega)]
    rw [h1, ← h2, List.take_left]
  have e2 : (ancsV A).drop (i * 14 + a.cs.length) = ancsV (A.drop (i + 1)) := by
    have : i * 14 + a.cs.length = (i + 1) * 14 := by simp [AncV.cs]; omega
    rw [this, ancsV_drop]
  rw [splice, e1, e2, List.set_eq_take_append_cons_drop, if_pos h]
  simp [ancsV, List.flatMap_append]
end Go.Proofs.YtjahiohlekdhoaaDoor

namespace Go.Proofs.YtjahiohlekdhoaaDoor
open Go
set_option maxHeartbeats 4000000
set_option maxRecDepth 4000
attribute [local irreducible] SW SL SP RA Then FQ IQ LoopQ RQ AQ NX CutQ Exit.noGoto

theorem ancsV_one (A : List AncV) : (ancsV A).all Value.oneCell' = true := fm_one A fun _ _ => rfl
/-- What a pair's slots tell, by places. -/
def PairV.slotAt (p : PairV) (i k : Nat) : AncP := if i = 0 then p.d0.pure.slot k else p.d1.pure.slot k
theorem c_slots (p : PairV) (h0 : p.d0.ok) (h1 : p.d1.ok) : Ctr Tryd.prog GW 38 [p.v] [] p.ress (retF fun v Φ' => ∃ A : List AncV, v = .agg (ancsV A).toArray ∧ A.map AncV.pure = (List.range 4).map p.d0.pure.slot ++ (List.range 4).map p.d1.pure.slot ∧ (∀ a ∈ A, a.mark.key.ok) ∧ Φ' = [keysR A]) := by
  refine Ctr.intro Tryd.func38 (by kernel_rfl) rfl Tryd.ntmps38 rfl rfl rfl fun w' X => ?_
  refine sw_seq ?_
  refine sw_region ?_
  refine r_box (cs := p.cs) (by exact rfl) rfl (by exact rfl) fun b1 => ?_
  refine r_alloc (v := .agg (ancsV (List.replicate 8 zeroA)).toArray) (by kernel_rfl) (cs := ancsV (List.replicate 8 zeroA)) rfl (by exact rfl) fun b2 => ?_
  refine sl_nil ?_
  refine sp_then ?_
  refine sw_seq ?_
  refine sw_seq ?_
  refine sw_region ?_
  refine r_call1 (c_places GW) (by exact rfl) (by exact rfl) (by exact rfl) (by simp) (by exact rfl) ?_
  refine sl_nil ?_
  refine sp_then ?_
  refine sw_block ?_
  refine w_have (φ := keysR (List.replicate 8 zeroA)) (fun V w _ x hx i v hv => by rw [(List.mem_replicate.1 hx).2] at hv; simp [zeroA, AncP.withKey, BS.nil, bv] at hv) ?_
  refine w_have (φ := Res.pure (((List.replicate 8 zeroA).map AncV.pure = List.replicate 8 AncP.zero ∧ (List.replicate 8 zeroA).length = 8) ∧ ∀ a ∈ List.replicate 8 zeroA, a.mark.key.ok)) (fun V w _ => ⟨⟨rfl, rfl⟩, fun a ha => by rw [(List.mem_replicate.1 ha).2]; exact ⟨Nat.le_refl _, Nat.zero_le _⟩⟩) ?_
  refine sw_rangeA (ι := List AncV) (ps := [5]) (Bp := []) (i_places GW) (fun _ A => [.box b2 (ancsV A) 73, .box b1 p.cs 63]) (fun s A => Res.pure ((A.map AncV.pure = s ∧ A.length = 8) ∧ ∀ a ∈ A, a.mark.key.ok) :: keysR A :: p.ress) (fun s x => s.set (x.1 * 4 + x.2) (p.slotAt x.1 x.2)) (fun _ _ => True) (List.replicate 8 AncP.zero) (List.replicate 8 zeroA) rfl rfl rfl (adm_true _ _) (by simp) (fun φ h => h) (fun _ _ => rfl) rfl (fun x vs V w h => by obtain ⟨_, rfl⟩ := h; rfl) ?_ ?_
  · rintro l mk rec w X U K s A x vs hrec _ ht
    refine w_pure ?_
    rintro ⟨⟨hx1, hx2⟩, rfl⟩
    refine w_pure ?_
    rintro ⟨⟨hA, hA8⟩, hko⟩
    refine sw_region ?_
    refine r_alloc (by exact z112) (cs := [vi 0, vi 0]) rfl (by exact rfl) fun b3 => ?_
    refine r_store_all (k := ?_)
    refine sl_nil ?_
    refine sp_asgU hrec rfl (.tl .hd) ?_
    obtain ⟨i, k⟩ := x
    dsimp only at hx1 hx2 ⊢
    obtain rfl | rfl : i = 0 ∨ i = 1 := by omega
    · refine sw_block ?_
      
      refine sw_draw [(none, .box b3 [vi ((0 : Nat) : Int), vi (k : Int)] 112), (none, .box b1 p.cs 63)] [] [0, 1, 2, 3, 4, 5, 6, 7, 8, 9, 10, 11, 12, 13, 14] mix (by kernel_rfl) rfl ?_
      refine ra_first 0 [] [1, 2, 3, 4, 5, 6, 7, 8, 9, 10, 11, 12, 13, 14] (hq := by exact q_fieldAddr) (k := ?_)
      refine ra_first 1 [(none, .box b3 [vi ((0 : Nat) : Int), vi (k : Int)] 112), (none, .box b1 p.cs 63)] [2, 3, 4, 5, 6, 7, 8, 9, 10, 11, 12, 13, 14] (hq := by first | exact q_load_one | exact q_load_all | exact q_load_fr1 | exact q_load_fr) (k := ?_)
      refine ra_first 2 [] [3, 4, 5, 6, 7, 8, 9, 10, 11, 12, 13, 14] (hq := by exact q_fieldAddr) (k := ?_)
      refine ra_first 3 [(none, .box b3 [vi ((0 : Nat) : Int), vi (k : Int)] 112), (none, .box b1 p.cs 63)] [4, 5, 6, 7, 8, 9, 10, 11, 12, 13, 14] (hq := by first | exact q_load_one | exact q_load_all | exact q_load_fr1 | exact q_load_fr) (k := ?_)
      refine ra_first 4 [] [5, 6, 7, 8, 9, 10, 11, 12, 13, 14] (hq := by exact q_fieldAddr) (k := ?_)
      refine ra_first 5 [(none, .box b3 [vi ((0 : Nat) : Int), vi (k : Int)] 112), (none, .box b1 p.cs 63)] [6, 7, 8, 9, 10, 11, 12, 13, 14] (hq := by first | exact q_load_one | exact q_load_all | exact q_load_fr1 | exact q_load_fr) (k := ?_)
      refine ra_first 6 [] [7, 8, 9, 10, 11, 12, 13, 14] (hq := by exact q_fieldAddr) (k := ?_)
      refine ra_first 7 [] [8, 9, 10, 11, 12, 13, 14] (hq := by exact q_idx_arr (i := 0) (m := 0) (by exact ta rfl) (by exact rfl) (by exact rfl) (by decide) (by decide) rfl) (k := ?_)
      refine ra_first 8 [(none, .box b3 [vi ((0 : Nat) : Int), vi (k : Int)] 112), (none, .box b1 p.cs 63)] [9, 10, 11, 12, 13, 14] (hq := by exact q_load_agg (vs := p.d0.cs) (by exact tz rfl) (by exact rfl) (.tail _ (.head _)) rfl rfl) (k := ?_)
      refine ra_first 9 [] [10, 11, 12, 13, 14] (hq := by exact q_fieldAddr) (k := ?_)
      refine ra_first 10 [(none, .box b3 [vi ((0 : Nat) : Int), vi (k : Int)] 112), (none, .box b1 p.cs 63)] [11, 12, 13, 14] (hq := by first | exact q_load_one | exact q_load_all | exact q_load_fr1 | exact q_load_fr) (k := ?_)
      refine ra_first 12 [] [11, 13, 14] (hq := by exact q_idx_arr (i := 0) (m := 0) (by exact ta rfl) (by exact rfl) (by exact rfl) (by decide) (by decide) rfl) (k := ?_)
      refine ra1 (i := 11) [13, 14] (h := ?_)
      refine r_callF (c_rslot p.d0 h0 k hx2) (by exact rfl) (by exact rfl) (by exact rfl) (PhAll.all (by repeat' (first | trivial | exact .head _ | exact .tail _ (.head _) | exact .tail _ (.tail _ (.head _)) | exact .tail _ (.tail _ (.tail _ (.head _))) | exact .tail _ (.tail _ (.tail _ (.tail _ (.head _)))) | exact .tail _ (.tail _ (.tail _ (.tail _ (.tail _ (.head _))))) | exact .tail _ (.tail _ (.tail _ (.tail _ (.tail _ (.tail _ (.head _)))))) | exact .tail _ (.tail _ (.tail _ (.tail _ (.tail _ (.tail _ (.tail _ (.head _))))))) | exact .tail _ (.tail _ (.tail _ (.tail _ (.tail _ (.tail _ (.tail _ (.tail _ (.head _)))))))) | exact .tail _ (.tail _ (.tail _ (.tail _ (.tail _ (.tail _ (.tail _ (.tail _ (.tail _ (.head _))))))))) | exact .tail _ (.tail _ (.tail _ (.tail _ (.tail _ (.tail _ (.tail _ (.tail _ (.tail _ (.tail _ (.head _)))))))))) | exact .tail _ (.tail _ (.tail _ (.tail _ (.tail _ (.tail _ (.tail _ (.tail _ (.tail _ (.tail _ (.tail _ (.head _))))))))))) | apply And.intro))) (by exact rfl) ?_
      rintro _ _ ⟨a, rfl, ha1, ha2, rfl⟩
      refine sl_nil ?_
      refine sp_nx (k := ?_)
      refine ra1 (i := 13) [14] (h := ?_)
      refine r_idx_arr (i := k) (m := (k : Int)) (by exact ta rfl) (by exact rfl) (by exact rfl) (by omega) (by omega) (Int.toNat_natCast k) (by exact rfl) ?_
      refine sl_nil ?_
      refine sp_nx (k := ?_)
      refine ra1 (i := 14) [] (h := ?_)
      refine r_store (vs := a.cs) (cs' := ancsV (A.set (0 * 4 + k) a)) (by exact tz rfl) (by exact rfl) (by exact rfl) (by first | exact .hd | exact .tl (.hd) | exact .tl (.tl (.hd)) | exact .tl (.tl (.tl (.hd))) | exact .tl (.tl (.tl (.tl (.hd)))) | exact .tl (.tl (.tl (.tl (.tl (.hd))))) | exact .tl (.tl (.tl (.tl (.tl (.tl (.hd)))))) | exact .tl (.tl (.tl (.tl (.tl (.tl (.tl (.hd))))))) | exact .tl (.tl (.tl (.tl (.tl (.tl (.tl (.tl (.hd)))))))) | exact .tl (.tl (.tl (.tl (.tl (.tl (.tl (.tl (.tl (.hd))))))))) | exact .tl (.tl (.tl (.tl (.tl (.tl (.tl (.tl (.tl (.tl (.hd)))))))))) | exact .tl (.tl (.tl (.tl (.tl (.tl (.tl (.tl (.tl (.tl (.tl (.hd)))))))))))) rfl rfl rfl (by rw [ancsV_len, hA8]; simp [AncV.cs]; omega) (by rw [← ancsV_set A (0 * 4 + k) a (by omega)]; congr 1; omega) ?_
      refine sl_nil ?_
      refine sp_nx (k := ?_)
      refine ra_done ?_
      refine sp_block ?_
      refine sp_of_sl (fun h => f_have (φ := keysR (A.set (0 * 4 + k) a)) (fun V w hw => keys_set (hw _ (.tail _ (.head _))) (hw _ (.head _))) h) ?_
      refine sp_of_sl (fun h => f_have (φ := Res.pure (((A.set (0 * 4 + k) a).map AncV.pure = s.set (0 * 4 + k) (p.slotAt 0 k) ∧ (A.set (0 * 4 + k) a).length = 8) ∧ ∀ a' ∈ A.set (0 * 4 + k) a, a'.mark.key.ok)) (fun V w hw => ⟨⟨by rw [List.map_set, hA, ha2]; rfl, by simpa using hA8⟩, fun a' h' => (List.mem_or_eq_of_mem_set h').elim (hko a') fun e => e ▸ ha1⟩) h) ?_
      exact sp_round (ι := List AncV) (i' := A.set (0 * 4 + k) a) ht hrec rfl (.cons _ (List.Sublist.refl _)) (fun φ hφ => by
        cases hφ with
        | head => exact .head _
        | tail _ hφ => cases hφ with
          | head => exact .tail _ (.head _)
          | tail _ hφ => exact .tail _ (.tail _ (.tail _ (.tail _ hφ))))
    · refine sw_block ?_
      
      refine sw_draw [(none, .box b3 [vi ((1 : Nat) : Int), vi (k : Int)] 112), (none, .box b1 p.cs 63)] [] [0, 1, 2, 3, 4, 5, 6, 7, 8, 9, 10, 11, 12, 13, 14] mix (by kernel_rfl) rfl ?_
      refine ra_first 0 [] [1, 2, 3, 4, 5, 6, 7, 8, 9, 10, 11, 12, 13, 14] (hq := by exact q_fieldAddr) (k := ?_)
      refine ra_first 1 [(none, .box b3 [vi ((1 : Nat) : Int), vi (k : Int)] 112), (none, .box b1 p.cs 63)] [2, 3, 4, 5, 6, 7, 8, 9, 10, 11, 12, 13, 14] (hq := by first | exact q_load_one | exact q_load_all | exact q_load_fr1 | exact q_load_fr) (k := ?_)
      refine ra_first 2 [] [3, 4, 5, 6, 7, 8, 9, 10, 11, 12, 13, 14] (hq := by exact q_fieldAddr) (k := ?_)
      refine ra_first 3 [(none, .box b3 [vi ((1 : Nat) : Int), vi (k : Int)] 112), (none, .box b1 p.cs 63)] [4, 5, 6, 7, 8, 9, 10, 11, 12, 13, 14] (hq := by first | exact q_load_one | exact q_load_all | exact q_load_fr1 | exact q_load_fr) (k := ?_)
      refine ra_first 4 [] [5, 6, 7, 8, 9, 10, 11, 12, 13, 14] (hq := by exact q_fieldAddr) (k := ?_)
      refine ra_first 5 [(none, .box b3 [vi ((1 : Nat) : Int), vi (k : Int)] 112), (none, .box b1 p.cs 63)] [6, 7, 8, 9, 10, 11, 12, 13, 14] (hq := by first | exact q_load_one | exact q_load_all | exact q_load_fr1 | exact q_load_fr) (k := ?_)
      refine ra_first 6 [] [7, 8, 9, 10, 11, 12, 13, 14] (hq := by exact q_fieldAddr) (k := ?_)
      refine ra_first 7 [] [8, 9, 10, 11, 12, 13, 14] (hq := by exact q_idx_arr (i := 1) (m := 1) (by exact ta rfl) (by exact rfl) (by exact rfl) (by decide) (by decide) rfl) (k := ?_)
      refine ra_first 8 [(none, .box b3 [vi ((1 : Nat) : Int), vi (k : Int)] 112), (none, .box b1 p.cs 63)] [9, 10, 11, 12, 13, 14] (hq := by exact q_load_agg (vs := p.d1.cs) (by exact tz rfl) (by exact rfl) (.tail _ (.head _)) rfl rfl) (k := ?_)
      refine ra_first 9 [] [10, 11, 12, 13, 14] (hq := by exact q_fieldAddr) (k := ?_)
      refine ra_first 10 [(none, .box b3 [vi ((1 : Nat) : Int), vi (k : Int)] 112), (none, .box b1 p.cs 63)] [11, 12, 13, 14] (hq := by first | exact q_load_one | exact q_load_all | exact q_load_fr1 | exact q_load_fr) (k := ?_)
      refine ra_first 12 [] [11, 13, 14] (hq := by exact q_idx_arr (i := 1) (m := 1) (by exact ta rfl) (by exact rfl) (by exact rfl) (by decide) (by decide) rfl) (k := ?_)
      refine ra1 (i := 11) [13, 14] (h := ?_)
      refine r_callF (c_rslot p.d1 h1 k hx2) (by exact rfl) (by exact rfl) (by exact rfl) (PhAll.all (by repeat' (first | trivial | exact .head _ | exact .tail _ (.head _) | exact .tail _ (.tail _ (.head _)) | exact .tail _ (.tail _ (.tail _ (.head _))) | exact .tail _ (.tail _ (.tail _ (.tail _ (.head _)))) | exact .tail _ (.tail _ (.tail _ (.tail _ (.tail _ (.head _))))) | exact .tail _ (.tail _ (.tail _ (.tail _ (.tail _ (.tail _ (.head _)))))) | exact .tail _ (.tail _ (.tail _ (.tail _ (.tail _ (.tail _ (.tail _ (.head _))))))) | exact .tail _ (.tail _ (.tail _ (.tail _ (.tail _ (.tail _ (.tail _ (.tail _ (.head _)))))))) | exact .tail _ (.tail _ (.tail _ (.tail _ (.tail _ (.tail _ (.tail _ (.tail _ (.tail _ (.head _))))))))) | exact .tail _ (.tail _ (.tail _ (.tail _ (.tail _ (.tail _ (.tail _ (.tail _ (.tail _ (.tail _ (.head _)))))))))) | exact .tail _ (.tail _ (.tail _ (.tail _ (.tail _ (.tail _ (.tail _ (.tail _ (.tail _ (.tail _ (.tail _ (.head _))))))))))) | apply And.intro))) (by exact rfl) ?_
      rintro _ _ ⟨a, rfl, ha1, ha2, rfl⟩
      refine sl_nil ?_
      refine sp_nx (k := ?_)
      refine ra1 (i := 13) [14] (h := ?_)
      refine r_idx_arr (i := k) (m := (k : Int)) (by exact ta rfl) (by exact rfl) (by exact rfl) (by omega) (by omega) (Int.toNat_natCast k) (by exact rfl) ?_
      refine sl_nil ?_
      refine sp_nx (k := ?_)
      refine ra1 (i := 14) [] (h := ?_)
      refine r_store (vs := a.cs) (cs' := ancsV (A.set (1 * 4 + k) a)) (by exact tz rfl) (by exact rfl) (by exact rfl) (by first | exact .hd | exact .tl (.hd) | exact .tl (.tl (.hd)) | exact .tl (.tl (.tl (.hd))) | exact .tl (.tl (.tl (.tl (.hd)))) | exact .tl (.tl (.tl (.tl (.tl (.hd))))) | exact .tl (.tl (.tl (.tl (.tl (.tl (.hd)))))) | exact .tl (.tl (.tl (.tl (.tl (.tl (.tl (.hd))))))) | exact .tl (.tl (.tl (.tl (.tl (.tl (.tl (.tl (.hd)))))))) | exact .tl (.tl (.tl (.tl (.tl (.tl (.tl (.tl (.tl (.hd))))))))) | exact .tl (.tl (.tl (.tl (.tl (.tl (.tl (.tl (.tl (.tl (.hd)))))))))) | exact .tl (.tl (.tl (.tl (.tl (.tl (.tl (.tl (.tl (.tl (.tl (.hd)))))))))))) rfl rfl rfl (by rw [ancsV_len, hA8]; simp [AncV.cs]; omega) (by rw [← ancsV_set A (1 * 4 + k) a (by omega)]; congr 1; omega) ?_
      refine sl_nil ?_
      refine sp_nx (k := ?_)
      refine ra_done ?_
      refine sp_block ?_
      refine sp_of_sl (fun h => f_have (φ := keysR (A.set (1 * 4 + k) a)) (fun V w hw => keys_set (hw _ (.tail _ (.head _))) (hw _ (.head _))) h) ?_
      refine sp_of_sl (fun h => f_have (φ := Res.pure (((A.set (1 * 4 + k) a).map AncV.pure = s.set (1 * 4 + k) (p.slotAt 1 k) ∧ (A.set (1 * 4 + k) a).length = 8) ∧ ∀ a' ∈ A.set (1 * 4 + k) a, a'.mark.key.ok)) (fun V w hw => ⟨⟨by rw [List.map_set, hA, ha2]; rfl, by simpa using hA8⟩, fun a' h' => (List.mem_or_eq_of_mem_set h').elim (hko a') fun e => e ▸ ha1⟩) h) ?_
      exact sp_round (ι := List AncV) (i' := A.set (1 * 4 + k) a) ht hrec rfl (.cons _ (List.Sublist.refl _)) (fun φ hφ => by
        cases hφ with
        | head => exact .head _
        | tail _ hφ => cases hφ with
          | head => exact .tail _ (.head _)
          | tail _ hφ => exact .tail _ (.tail _ (.tail _ (.tail _ hφ))))
  · rintro A mk
    refine sp_block ?_
    refine sp_then ?_
    refine w_pure ?_
    rintro ⟨⟨hA, hA8⟩, hko⟩
    have hl : (ancsV A).length = 112 := by rw [ancsV_len, hA8]
    refine sw_seq ?_
    refine sw_region ?_
    refine r_load_all (cs := ancsV A) (by exact tz rfl) (by exact rfl) (by first | exact .head _ | exact .tail _ (.head _) | exact .tail _ (.tail _ (.head _)) | exact .tail _ (.tail _ (.tail _ (.head _))) | exact .tail _ (.tail _ (.tail _ (.tail _ (.head _)))) | exact .tail _ (.tail _ (.tail _ (.tail _ (.tail _ (.head _))))) | exact .tail _ (.tail _ (.tail _ (.tail _ (.tail _ (.tail _ (.head _)))))) | exact .tail _ (.tail _ (.tail _ (.tail _ (.tail _ (.tail _ (.tail _ (.head _))))))) | exact .tail _ (.tail _ (.tail _ (.tail _ (.tail _ (.tail _ (.tail _ (.tail _ (.head _)))))))) | exact .tail _ (.tail _ (.tail _ (.tail _ (.tail _ (.tail _ (.tail _ (.tail _ (.tail _ (.head _))))))))) | exact .tail _ (.tail _ (.tail _ (.tail _ (.tail _ (.tail _ (.tail _ (.tail _ (.tail _ (.tail _ (.head _)))))))))) | exact .tail _ (.tail _ (.tail _ (.tail _ (.tail _ (.tail _ (.tail _ (.tail _ (.tail _ (.tail _ (.tail _ (.head _)))))))))))) hl (by exact rfl) ?_
    refine r_store_all (cs := ancsV A) (vs := ancsV A) (by exact tz rfl) (by exact rfl) (by exact rfl) (by first | exact .hd | exact .tl (.hd) | exact .tl (.tl (.hd)) | exact .tl (.tl (.tl (.hd))) | exact .tl (.tl (.tl (.tl (.hd)))) | exact .tl (.tl (.tl (.tl (.tl (.hd))))) | exact .tl (.tl (.tl (.tl (.tl (.tl (.hd)))))) | exact .tl (.tl (.tl (.tl (.tl (.tl (.tl (.hd))))))) | exact .tl (.tl (.tl (.tl (.tl (.tl (.tl (.tl (.hd)))))))) | exact .tl (.tl (.tl (.tl (.tl (.tl (.tl (.tl (.tl (.hd))))))))) | exact .tl (.tl (.tl (.tl (.tl (.tl (.tl (.tl (.tl (.tl (.hd)))))))))) | exact .tl (.tl (.tl (.tl (.tl (.tl (.tl (.tl (.tl (.tl (.tl (.hd)))))))))))) rfl hl (ancsV_one A) hl ?_
    refine sl_nil ?_
    refine sp_then ?_
    refine sw_ret ?_
    refine sp_retv rfl rfl (.agg rfl (tz rfl) hl (.tail _ (.head _))) rfl rfl ⟨rfl, A, rfl, hA.trans rfl, hko, rfl⟩ (List.nil_sublist _) rfl (by simp)
end Go.Proofs.YtjahiohlekdhoaaDoor

namespace Go.Proofs.YtjahiohlekdhoaaDoor
open Go
set_option maxHeartbeats 4000000
set_option maxRecDepth 4000
attribute [local irreducible] SW SL SP RA Then FQ IQ LoopQ RQ AQ NX CutQ Exit.noGoto

section
variable {c : Ctx} {ρ : List (Nat × Value)} {B B' B0 Br : List Own} {Φ Φ' : List Res} {Ψ : List JR} {ops : Array Oper} {rest : List Oper} {Q : Post} {d ty t : Nat} {ps : String} {af : Array Edge} {x y z : Operand} {v u : Value} {xt yt : TypeId} {m n : Int} {kk : IntKind}

theorem r_shr8 {a : UInt8} {k' : IntKind} {n : Nat} (hx : ev ρ x = some (v8 a) := by exact rfl) (hy : ev ρ y = some (.int k' (n : Int)) := by exact rfl) (hn : Nat.blt n 8 = true := by exact rfl) (hb : Nat.blt d c.nt = true := by exact rfl) (k : SL c ((d, v8 (a >>> UInt8.ofNat n)) :: ρ) B Φ Ψ ops rest Q) : SL c ρ B Φ Ψ ops (⟨some d, .binOp .shr xt x y yt, ty, ps, af, none⟩ :: rest) Q :=
  r_bin hx hy hb (fun w => by
    have hn' : n < 8 := by simpa using hn
    have e : ((a >>> UInt8.ofNat n).toNat : Int) = (a.toNat : Int).fdiv (2 ^ n) := by
      have : ((2 : Int) ^ n) = ((2 ^ n : Nat) : Int) := by simp
      rw [this, fdiv_nat, UInt8.toNat_shiftRight, Nat.shiftRight_eq_div_pow]
      simp
      congr 2; omega
    have h0 : ¬ ((n : Int) < 0) := by omega
    have h1 : min n 64 = n := by omega
    simp [eqGuard, binOp, Op.shift, IntKind.bits, h1, -UInt8.toNat_shiftRight, -UInt8.toNat_shiftLeft]
    rw [e, Int.fdiv_eq_ediv_of_nonneg _ (Int.le_of_lt (Int.pow_pos (by decide)))]) k
end
/-- Whether an anchor has a disk in its Live. -/
def hasL (live : UInt8) (k : Bool) : Bool := bif k then decide (((live >>> UInt8.ofNat 1 &&& UInt8.ofNat 1).toNat : Int) = 1) else decide (((live >>> UInt8.ofNat 0 &&& UInt8.ofNat 1).toNat : Int) = 1)
theorem c_has (G : Res) (a : AncV) (k : Bool) : Ctr Tryd.prog G 75 [a.v, vi (ib k)] [] [] (ret1 (vb (hasL a.live k))) := by
  refine Ctr.intro Tryd.func75 (by kernel_rfl) rfl Tryd.ntmps75 rfl rfl rfl fun w' X => ?_
  refine sw_seq ?_
  refine sw_region ?_
  refine r_box (k := fun bx => ?_)
  refine r_assign (k := ?_)
  refine sl_nil ?_
  refine sp_then ?_
  refine sw_seq ?_
  refine sw_region ?_
  refine r_fieldAddr (k := ?_)
  refine r_load_one (k := ?_)
  refine r_move (k := ?_)
  cases k
  · refine r_shr8 (n := 0) (by exact rfl) (by exact rfl) (by exact rfl) (by exact rfl) ?_
    refine r_and8c (k := ?_)
    refine r_eql (k := ?_)
    refine r_assign (k := ?_)
    refine sl_nil ?_
    refine sp_then ?_
    refine sw_ret ?_
    refine sp_retv rfl rfl (.tmp rfl) rfl rfl ⟨rfl, rfl, rfl⟩ (by simp) rfl (by simp)
  · refine r_shr8 (n := 1) (by exact rfl) (by exact rfl) (by exact rfl) (by exact rfl) ?_
    refine r_and8c (k := ?_)
    refine r_eql (k := ?_)
    refine r_assign (k := ?_)
    refine sl_nil ?_
    refine sp_then ?_
    refine sw_ret ?_
    refine sp_retv rfl rfl (.tmp rfl) rfl rfl ⟨rfl, rfl, rfl⟩ (by simp) rfl (by simp)
end Go.Proofs.YtjahiohlekdhoaaDoor

namespace Go.Proofs.YtjahiohlekdhoaaDoor
open Go
set_option maxHeartbeats 4000000
set_option maxRecDepth 4000
attribute [local irreducible] SW SL SP RA Then FQ IQ LoopQ RQ AQ NX CutQ Exit.noGoto

def bN (k : Bool) : Nat := if k then 1 else 0
/-- Whether a slot's anchor is void by another one of the other disk. -/
def voidBy (x y : AncV) (i : Bool) : Bool := decide (0 < y.tx.toNat) && (decide (x.tx.toNat ≤ y.tx.toNat) && !hasL y.live i)
def voidA (A : List AncV) (i : Bool) (k : Nat) : Bool := decide (¬ (A.getD (bN i * 4 + k) zeroA).tx.toNat = 0) && ((A.drop (bN (!i) * 4)).take 4).any fun y => voidBy (A.getD (bN i * 4 + k) zeroA) y i
theorem c_void (G : Res) (A : List AncV) (hA : A.length = 8) (i : Bool) (k : Nat) (hk : k < 4) : Ctr Tryd.prog G 40 [.agg (ancsV A).toArray, vi (ib i), vi (k : Int)] [] [] (ret1 (vb (voidA A i k))) := by
  have hl : (ancsV A).length = 112 := by rw [ancsV_len, hA]
  refine Ctr.intro Tryd.func40 (by kernel_rfl) rfl Tryd.ntmps40 rfl rfl rfl fun w' X => ?_
  refine sw_seq ?_
  refine sw_region ?_
  refine r_box (cs := ancsV A) (by exact rfl) rfl (by exact rfl) fun b1 => ?_
  refine r_assign (k := ?_)
  refine sl_nil ?_
  refine sp_then ?_
  refine sw_scope ?_
  refine sw_seq ?_
  refine sw_seq ?_
  refine sw_region ?_
  refine r_move (k := ?_)
  refine r_lss (k := ?_)
  refine r_move (k := ?_)
  have hi : 0 ≤ ib i ∧ ib i ≤ 1 := by cases i <;> decide
  refine r_re (t := 11) (v' := vb false) rfl (by rw [decide_eq_false (show ¬ ib i < 0 by omega)]) ?_
  refine gd_yes (k := ?_)
  refine r_move (k := ?_)
  refine gd_yes (k := ?_)
  refine r_gtr (k := ?_)
  refine rd_pick_f (k := ?_)
  refine r_move (k := ?_)
  refine r_re (t := 15) (v' := vb false) rfl (by rw [decide_eq_false (show ¬ 1 < ib i by omega)]) ?_
  refine gd_yes (k := ?_)
  refine r_move (k := ?_)
  refine gd_yes (k := ?_)
  refine r_lss (k := ?_)
  refine rd_pick_f (k := ?_)
  refine r_move (k := ?_)
  refine r_re (t := 19) (v' := vb false) rfl (by rw [decide_eq_false (show ¬ (k : Int) < 0 by omega)]) ?_
  refine gd_yes (k := ?_)
  refine r_move (k := ?_)
  refine gd_yes (k := ?_)
  refine r_geq (k := ?_)
  refine rd_pick_f (k := ?_)
  refine r_move (k := ?_)
  refine r_re (t := 23) (v' := vb false) rfl (by rw [decide_eq_false (show ¬ (4 : Int) ≤ (k : Int) by omega)]) ?_
  refine gd_yes (k := ?_)
  refine r_move (k := ?_)
  refine gd_yes (k := ?_)
  refine r_move (k := ?_)
  refine gd_yes (k := ?_)
  refine r_idx_arr (k := ?_)
  refine gd_yes (k := ?_)
  refine r_idx_arr (k := ?_)
  refine gd_yes (k := ?_)
  refine r_fieldAddr (k := ?_)
  refine gd_yes (k := ?_)
  have hbi : bN i ≤ 1 := by cases i <;> decide
  have hj : bN i * 4 + k < A.length := by omega
  have hx : A.getD (bN i * 4 + k) zeroA = A[bN i * 4 + k] := by simp [List.getD, hj]
  have hv : ∀ b : Bool, b = (decide (¬ (A[bN i * 4 + k]).tx.toNat = 0) && ((A.drop (bN (!i) * 4)).take 4).any fun y => voidBy A[bN i * 4 + k] y i) → voidA A i k = b := fun b h => by rw [h]; unfold voidA; rw [hx]
  generalize ex : A[bN i * 4 + k] = x at hv
  have hbn : (ib i).toNat = bN i := by cases i <;> rfl
  have hcn : (1 - ib i).toNat = bN (!i) := by cases i <;> rfl
  have e1 : 0 + (ib i).toNat * 56 + k * 14 + 0 = (bN i * 4 + k) * 14 := by rw [hbn]; omega
  refine r_load_one (v := v32 x.tx) (by exact tz rfl) (by exact rfl) (by first | exact .head _ | exact .tail _ (.head _) | exact .tail _ (.tail _ (.head _)) | exact .tail _ (.tail _ (.tail _ (.head _))) | exact .tail _ (.tail _ (.tail _ (.tail _ (.head _)))) | exact .tail _ (.tail _ (.tail _ (.tail _ (.tail _ (.head _))))) | exact .tail _ (.tail _ (.tail _ (.tail _ (.tail _ (.tail _ (.head _)))))) | exact .tail _ (.tail _ (.tail _ (.tail _ (.tail _ (.tail _ (.tail _ (.head _))))))) | exact .tail _ (.tail _ (.tail _ (.tail _ (.tail _ (.tail _ (.tail _ (.tail _ (.head _)))))))) | exact .tail _ (.tail _ (.tail _ (.tail _ (.tail _ (.tail _ (.tail _ (.tail _ (.tail _ (.head _))))))))) | exact .tail _ (.tail _ (.tail _ (.tail _ (.tail _ (.tail _ (.tail _ (.tail _ (.tail _ (.tail _ (.head _)))))))))) | exact .tail _ (.tail _ (.tail _ (.tail _ (.tail _ (.tail _ (.tail _ (.tail _ (.tail _ (.tail _ (.tail _ (.head _)))))))))))) (by exact (congrArg (fun j => (ancsV A)[j]?) e1).trans (by rw [ancsV_tx A _ hj, ex])) (by exact rfl) ?_
  refine gd_yes (k := ?_)
  refine r_eql (k := ?_)
  refine rd_pick_f (k := ?_)
  refine sl_nil ?_
  refine sp_then ?_
  by_cases h0 : x.tx.toNat = 0
  · refine w_re (t := 31) (v' := vb true) rfl (by simp [h0]) ?_
    refine swd_t (h := ?_)
    refine sw_seq ?_
    refine sw_region ?_
    refine r_assign (k := ?_)
    refine sl_nil ?_
    refine sp_then ?_
    refine sw_ret ?_
    refine sp_then_ret ?_
    refine sp_ng_ret ?_
    refine sp_retv rfl rfl (.tmp rfl) rfl rfl ⟨by rw [hv false (by simp [h0])], rfl, rfl⟩ (by simp) rfl (by simp)
  refine w_re (t := 31) (v' := vb false) rfl (by simp [h0]) ?_
  refine swd_f (h := ?_)
  refine sw_skip ?_
  refine sp_then ?_
  refine sw_seq ?_
  refine sw_label ?_
  refine sp_then ?_
  refine sw_seq ?_
  refine sw_seq ?_
  refine sw_region ?_
  refine r_move (k := ?_)
  refine r_sub64 (k := ?_)
  refine r_idx_arr (k := ?_)
  obtain ⟨Y, eY⟩ : ∃ Y, Y = (A.drop (bN (!i) * 4)).take 4 := ⟨_, rfl⟩
  have hbj : bN (!i) ≤ 1 := by cases i <;> decide
  have hYl : Y.length = 4 := by rw [eY, List.length_take, List.length_drop, hA]; omega
  have hYc : part' (ancsV A) (bN (!i) * 56) 56 = ancsV Y := by
    rw [part', show bN (!i) * 56 = (bN (!i) * 4) * 14 by omega, ancsV_drop]
    have h1 : ancsV (A.drop (bN (!i) * 4)) = ancsV Y ++ ancsV ((A.drop (bN (!i) * 4)).drop 4) := by rw [eY, ancsV, ancsV, ancsV, ← List.flatMap_append, List.take_append_drop]
    have h2 : (ancsV Y).length = 56 := by rw [ancsV_len, hYl]
    rw [h1, ← h2, List.take_left]
  have hYn : (ancsV Y).length = 56 := by rw [ancsV_len, hYl]
  rw [← eY] at hv
  refine r_load_agg (vs := ancsV Y) (by exact tz rfl) (by exact rfl) (by first | exact .head _ | exact .tail _ (.head _) | exact .tail _ (.tail _ (.head _)) | exact .tail _ (.tail _ (.tail _ (.head _))) | exact .tail _ (.tail _ (.tail _ (.tail _ (.head _)))) | exact .tail _ (.tail _ (.tail _ (.tail _ (.tail _ (.head _))))) | exact .tail _ (.tail _ (.tail _ (.tail _ (.tail _ (.tail _ (.head _)))))) | exact .tail _ (.tail _ (.tail _ (.tail _ (.tail _ (.tail _ (.tail _ (.head _))))))) | exact .tail _ (.tail _ (.tail _ (.tail _ (.tail _ (.tail _ (.tail _ (.tail _ (.head _)))))))) | exact .tail _ (.tail _ (.tail _ (.tail _ (.tail _ (.tail _ (.tail _ (.tail _ (.tail _ (.head _))))))))) | exact .tail _ (.tail _ (.tail _ (.tail _ (.tail _ (.tail _ (.tail _ (.tail _ (.tail _ (.tail _ (.head _)))))))))) | exact .tail _ (.tail _ (.tail _ (.tail _ (.tail _ (.tail _ (.tail _ (.tail _ (.tail _ (.tail _ (.tail _ (.head _)))))))))))) (by exact (congrArg (fun j => part' (ancsV A) j 56) (show 0 + (1 - ib i).toNat * 56 = bN (!i) * 56 by rw [hcn]; omega)).trans hYc) hYn (by exact rfl) ?_
  refine r_move (k := ?_)
  refine sl_nil ?_
  refine sp_then ?_
  refine sw_block ?_
  refine sw_loop (ι := { n : Nat // n ≤ 4 ∧ (Y.take n).any (fun y => voidBy x y i) = false }) (fun n => [(1, vi (ib i)), (2, vi (k : Int)), (3, .pointer (some ⟨b1, 0, none⟩)), (6, vb false), (35, .agg (ancsV Y).toArray), (36, vi (n.1 : Int))]) (fun _ => [.box b1 (ancsV A) 73]) (fun _ => []) (fun _ => []) (fun n => 4 - n.1) ⟨0, by omega, rfl⟩ ?_ fun n => ?_
  · exact Ent.mk' (by repeat' (first | trivial | exact rfl | apply And.intro)) (by repeat' (first | trivial | exact .head _ | exact .tail _ (.head _) | exact .tail _ (.tail _ (.head _)) | exact .tail _ (.tail _ (.tail _ (.head _))) | exact .tail _ (.tail _ (.tail _ (.tail _ (.head _)))) | exact .tail _ (.tail _ (.tail _ (.tail _ (.tail _ (.head _))))) | exact .tail _ (.tail _ (.tail _ (.tail _ (.tail _ (.tail _ (.head _)))))) | exact .tail _ (.tail _ (.tail _ (.tail _ (.tail _ (.tail _ (.tail _ (.head _))))))) | exact .tail _ (.tail _ (.tail _ (.tail _ (.tail _ (.tail _ (.tail _ (.tail _ (.head _)))))))) | exact .tail _ (.tail _ (.tail _ (.tail _ (.tail _ (.tail _ (.tail _ (.tail _ (.tail _ (.head _))))))))) | exact .tail _ (.tail _ (.tail _ (.tail _ (.tail _ (.tail _ (.tail _ (.tail _ (.tail _ (.tail _ (.head _)))))))))) | exact .tail _ (.tail _ (.tail _ (.tail _ (.tail _ (.tail _ (.tail _ (.tail _ (.tail _ (.tail _ (.tail _ (.head _))))))))))) | apply And.intro))
  obtain ⟨n, hn, hno⟩ := n
  dsimp only
  refine sw_seq ?_
  refine sw_region ?_
  refine r_lss (k := ?_)
  refine sl_nil ?_
  refine sp_then ?_
  refine sw_seq ?_
  refine sw_cond rfl (fun h => ?_) (fun h => ?_)
  · have h := of_decide_eq_true h
    have hn' : n < 4 := by omega
    have hnl : n < Y.length := by omega
    obtain ⟨y, ey⟩ : ∃ y, y = Y[n] := ⟨_, rfl⟩
    have hny : (Y.take (n + 1)).any (fun y => voidBy x y i) = voidBy x y i := by rw [take_any Y _ n hnl, hno, ← ey, Bool.false_or]
    refine sw_skip ?_
    refine sp_then ?_
    refine sw_seq ?_
    refine sw_block ?_
    refine sw_seq ?_
    refine sw_region ?_
    refine r_indexA (vs := y.cs) (i := n) (by exact ta rfl) (by exact tz rfl) (by exact rfl) (by exact rfl) (by omega) (by omega) (Int.toNat_natCast n) (by rw [ey]; exact ancsV_at Y n hnl) rfl (by exact rfl) ?_
    refine r_alloc (by exact z32) (cs := zeroA.cs) (by kernel_rfl) (by exact rfl) fun b2 => ?_
    refine r_store_all (cs := zeroA.cs) (vs := y.cs) (by exact tz rfl) (by exact rfl) (by exact rfl) (by first | exact .hd | exact .tl (.hd) | exact .tl (.tl (.hd)) | exact .tl (.tl (.tl (.hd))) | exact .tl (.tl (.tl (.tl (.hd)))) | exact .tl (.tl (.tl (.tl (.tl (.hd))))) | exact .tl (.tl (.tl (.tl (.tl (.tl (.hd)))))) | exact .tl (.tl (.tl (.tl (.tl (.tl (.tl (.hd))))))) | exact .tl (.tl (.tl (.tl (.tl (.tl (.tl (.tl (.hd)))))))) | exact .tl (.tl (.tl (.tl (.tl (.tl (.tl (.tl (.tl (.hd))))))))) | exact .tl (.tl (.tl (.tl (.tl (.tl (.tl (.tl (.tl (.tl (.hd)))))))))) | exact .tl (.tl (.tl (.tl (.tl (.tl (.tl (.tl (.tl (.tl (.tl (.hd)))))))))))) rfl rfl rfl rfl ?_
    refine sl_nil ?_
    refine sp_then ?_
    refine sw_seq ?_
    have hnext : voidBy x y i = false → (Y.take (n + 1)).any (fun y => voidBy x y i) = false := fun h => hny.trans h
    
    refine sw_draw [(none, .box b2 y.cs 32), (none, .box b1 (ancsV A) 73)] [] [0, 1, 2, 3, 4, 5, 6, 7, 8, 9, 10, 11, 12, 13, 14, 15, 16, 17, 18, 19, 20] mix (by kernel_rfl) rfl ?_
    refine ra_first 0 [] [1, 2, 3, 4, 5, 6, 7, 8, 9, 10, 11, 12, 13, 14, 15, 16, 17, 18, 19, 20] (hq := by exact q_fieldAddr) (k := ?_)
    refine ra_first 1 [(none, .box b2 y.cs 32), (none, .box b1 (ancsV A) 73)] [2, 3, 4, 5, 6, 7, 8, 9, 10, 11, 12, 13, 14, 15, 16, 17, 18, 19, 20] (hq := by first | exact q_load_one | exact q_load_all | exact q_load_fr1 | exact q_load_fr) (k := ?_)
    refine ra_first 2 [] [3, 4, 5, 6, 7, 8, 9, 10, 11, 12, 13, 14, 15, 16, 17, 18, 19, 20] (hq := by exact q_gtr) (k := ?_)
    refine ra_first 3 [] [4, 5, 6, 7, 8, 9, 10, 11, 12, 13, 14, 15, 16, 17, 18, 19, 20] (hq := by exact q_move) (k := ?_)
    
    refine ra_part (t := 42) rfl (fun c1 => ?_) (fun c1 => ?_)
    · have c1 := of_decide_eq_true c1
      have c1' : 0 < y.tx.toNat := by omega
      
      refine ra_firstg 4 [] [5, 6, 7, 8, 9, 10, 11, 12, 13, 14, 15, 16, 17, 18, 19, 20] (hq := by exact q_fieldAddr) (k := ?_)
      refine ra_firstg 5 [(none, .box b2 y.cs 32), (none, .box b1 (ancsV A) 73)] [6, 7, 8, 9, 10, 11, 12, 13, 14, 15, 16, 17, 18, 19, 20] (hq := by first | exact q_load_one | exact q_load_all | exact q_load_fr1 | exact q_load_fr) (k := ?_)
      refine ra_firstg 6 [] [7, 8, 9, 10, 11, 12, 13, 14, 15, 16, 17, 18, 19, 20] (hq := by exact q_move) (k := ?_)
      refine ra_firstg 7 [] [8, 9, 10, 11, 12, 13, 14, 15, 16, 17, 18, 19, 20] (hq := by exact q_move) (k := ?_)
      refine ra_firstg 8 [] [9, 10, 11, 12, 13, 14, 15, 16, 17, 18, 19, 20] (hq := by exact q_idx_arr (i := bN i) (m := ib i) (by exact ta rfl) (by exact rfl) (by exact rfl) (by omega) (by omega) (by exact hbn)) (k := ?_)
      refine ra_firstg 9 [] [10, 11, 12, 13, 14, 15, 16, 17, 18, 19, 20] (hq := by exact q_idx_arr (i := k) (m := (k : Int)) (by exact ta rfl) (by exact rfl) (by exact rfl) (by omega) (by omega) (by exact Int.toNat_natCast k)) (k := ?_)
      refine ra_firstg 10 [] [11, 12, 13, 14, 15, 16, 17, 18, 19, 20] (hq := by exact q_fieldAddr) (k := ?_)
      refine ra_firstg 11 [(none, .box b2 y.cs 32), (none, .box b1 (ancsV A) 73)] [12, 13, 14, 15, 16, 17, 18, 19, 20] (hq := by exact q_load_one (v := v32 x.tx) (by exact tz rfl) (by exact rfl) (.tail _ (.head _)) (by rw [show 0 + bN i * 56 + k * 14 + 0 = (bN i * 4 + k) * 14 by omega, ancsV_tx A _ hj, ex])) (k := ?_)
      refine ra_firstg 12 [] [13, 14, 15, 16, 17, 18, 19, 20] (hq := by exact q_geq) (k := ?_)
      refine ra_first 13 [] [14, 15, 16, 17, 18, 19, 20] (hq := by first | exact q_pick_t | exact q_pick_f) (k := ?_)
      refine ra_first 14 [] [15, 16, 17, 18, 19, 20] (hq := by exact q_move) (k := ?_)
      
      refine ra_part (t := 53) rfl (fun c2 => ?_) (fun c2 => ?_)
      · have c2 := of_decide_eq_true c2
        
        refine ra_firstg 15 [(none, .box b2 y.cs 32), (none, .box b1 (ancsV A) 73)] [16, 17, 18, 19, 20] (hq := by first | exact q_load_one | exact q_load_all | exact q_load_fr1 | exact q_load_fr) (k := ?_)
        refine ra_firstg 16 [] [17, 18, 19, 20] (hq := by exact q_move) (k := ?_)
        refine ra1 (i := 17) [18, 19, 20] (h := ?_)
        refine gd_yes (k := ?_)
        refine r_call1 (c_has G y i) (by exact rfl) (by exact rfl) (by exact rfl) (by simp) (by exact rfl) ?_
        refine sl_nil ?_
        refine sp_nx (k := ?_)
        refine ra_firstg 18 [] [19, 20] (hq := by exact q_not) (k := ?_)
        refine ra_first 19 [] [20] (hq := by first | exact q_pick_t | exact q_pick_f) (k := ?_)
        refine ra_first 20 [] [] (hq := by exact q_assign) (k := ?_)
        refine ra_done ?_
        refine sp_then ?_
        refine sw_seq ?_
        refine sw_region ?_
        refine r_move (k := ?_)
        refine sl_nil ?_
        refine sp_then ?_
        cases hh : hasL y.live i
        · have hvb : voidBy x y i = true := by simp [voidBy, c1', hh]; omega
          refine swd_t (h := ?_)
          refine sw_exit ?_
          refine sp_block_exit' (h := ?_)
          refine sp_then_exit ?_
          refine sp_loop_exit ?_
          refine sp_block_exit ?_
          refine sp_then ?_
          refine sw_seq ?_
          refine sw_region ?_
          refine r_move (k := ?_)
          refine r_assign (k := ?_)
          refine sl_nil ?_
          refine sp_then ?_
          refine sw_ret ?_
          refine sp_ng_ret ?_
          refine sp_retv rfl rfl (.tmp rfl) rfl rfl ⟨?_, rfl, rfl⟩ (by simp) rfl (by simp)
          have ha : (Y.any fun y => voidBy x y i) = true := List.any_eq_true.2 ⟨y, ey ▸ List.getElem_mem hnl, hvb⟩
          rw [hv true (by rw [ha]; simp [h0])]; rfl
        · have hvb : voidBy x y i = false := by simp [voidBy, hh]
          refine swd_f (h := ?_)
          refine sw_skip ?_
          refine sp_block ?_
          refine sp_then ?_
          refine sw_region ?_
          refine r_add64 (k := ?_)
          refine r_move (k := ?_)
          refine sl_nil ?_
          refine sp_drop rfl ?_
          refine sp_loop (ι := { n : Nat // n ≤ 4 ∧ (Y.take n).any (fun y => voidBy x y i) = false }) ⟨n + 1, by omega, hnext hvb⟩ ?_ ?_
          · dsimp only; omega
          · exact Ent.mk' (by repeat' (first | trivial | exact rfl | apply And.intro)) (by repeat' (first | trivial | exact .head _ | exact .tail _ (.head _) | exact .tail _ (.tail _ (.head _)) | exact .tail _ (.tail _ (.tail _ (.head _))) | exact .tail _ (.tail _ (.tail _ (.tail _ (.head _)))) | exact .tail _ (.tail _ (.tail _ (.tail _ (.tail _ (.head _))))) | exact .tail _ (.tail _ (.tail _ (.tail _ (.tail _ (.tail _ (.head _)))))) | exact .tail _ (.tail _ (.tail _ (.tail _ (.tail _ (.tail _ (.tail _ (.head _))))))) | exact .tail _ (.tail _ (.tail _ (.tail _ (.tail _ (.tail _ (.tail _ (.tail _ (.head _)))))))) | exact .tail _ (.tail _ (.tail _ (.tail _ (.tail _ (.tail _ (.tail _ (.tail _ (.tail _ (.head _))))))))) | exact .tail _ (.tail _ (.tail _ (.tail _ (.tail _ (.tail _ (.tail _ (.tail _ (.tail _ (.tail _ (.head _)))))))))) | exact .tail _ (.tail _ (.tail _ (.tail _ (.tail _ (.tail _ (.tail _ (.tail _ (.tail _ (.tail _ (.tail _ (.head _))))))))))) | apply And.intro))
      · have c2 := of_decide_eq_false c2
        have hvb : voidBy x y i = false := by simp [voidBy]; omega
        
        
        refine ra_skip 15 [16, 17, 18, 19, 20] (k := ?_)
        refine ra_skip 16 [17, 18, 19, 20] (k := ?_)
        refine ra_skip 17 [18, 19, 20] (k := ?_)
        refine ra_skip 18 [19, 20] (k := ?_)
        refine ra_first 19 [] [20] (hq := by first | exact q_pick_t | exact q_pick_f) (k := ?_)
        refine ra_first 20 [] [] (hq := by exact q_assign) (k := ?_)
        refine ra_done ?_
        refine sp_then ?_
        refine sw_seq ?_
        refine sw_region ?_
        refine r_move (k := ?_)
        refine sl_nil ?_
        refine sp_then ?_
        refine swd_f (h := ?_)
        refine sw_skip ?_
        refine sp_block ?_
        refine sp_then ?_
        refine sw_region ?_
        refine r_add64 (k := ?_)
        refine r_move (k := ?_)
        refine sl_nil ?_
        refine sp_drop rfl ?_
        refine sp_loop (ι := { n : Nat // n ≤ 4 ∧ (Y.take n).any (fun y => voidBy x y i) = false }) ⟨n + 1, by omega, hnext hvb⟩ ?_ ?_
        · dsimp only; omega
        · exact Ent.mk' (by repeat' (first | trivial | exact rfl | apply And.intro)) (by repeat' (first | trivial | exact .head _ | exact .tail _ (.head _) | exact .tail _ (.tail _ (.head _)) | exact .tail _ (.tail _ (.tail _ (.head _))) | exact .tail _ (.tail _ (.tail _ (.tail _ (.head _)))) | exact .tail _ (.tail _ (.tail _ (.tail _ (.tail _ (.head _))))) | exact .tail _ (.tail _ (.tail _ (.tail _ (.tail _ (.tail _ (.head _)))))) | exact .tail _ (.tail _ (.tail _ (.tail _ (.tail _ (.tail _ (.tail _ (.head _))))))) | exact .tail _ (.tail _ (.tail _ (.tail _ (.tail _ (.tail _ (.tail _ (.tail _ (.head _)))))))) | exact .tail _ (.tail _ (.tail _ (.tail _ (.tail _ (.tail _ (.tail _ (.tail _ (.tail _ (.head _))))))))) | exact .tail _ (.tail _ (.tail _ (.tail _ (.tail _ (.tail _ (.tail _ (.tail _ (.tail _ (.tail _ (.head _)))))))))) | exact .tail _ (.tail _ (.tail _ (.tail _ (.tail _ (.tail _ (.tail _ (.tail _ (.tail _ (.tail _ (.tail _ (.head _))))))))))) | apply And.intro))
    · have c1 := of_decide_eq_false c1
      have hvb : voidBy x y i = false := by simp [voidBy]; omega
      
      
      
      refine ra_skip 4 [5, 6, 7, 8, 9, 10, 11, 12, 13, 14, 15, 16, 17, 18, 19, 20] (k := ?_)
      refine ra_skip 5 [6, 7, 8, 9, 10, 11, 12, 13, 14, 15, 16, 17, 18, 19, 20] (k := ?_)
      refine ra_skip 6 [7, 8, 9, 10, 11, 12, 13, 14, 15, 16, 17, 18, 19, 20] (k := ?_)
      refine ra_skip 7 [8, 9, 10, 11, 12, 13, 14, 15, 16, 17, 18, 19, 20] (k := ?_)
      refine ra_skip 8 [9, 10, 11, 12, 13, 14, 15, 16, 17, 18, 19, 20] (k := ?_)
      refine ra_skip 9 [10, 11, 12, 13, 14, 15, 16, 17, 18, 19, 20] (k := ?_)
      refine ra_skip 10 [11, 12, 13, 14, 15, 16, 17, 18, 19, 20] (k := ?_)
      refine ra_skip 11 [12, 13, 14, 15, 16, 17, 18, 19, 20] (k := ?_)
      refine ra_skip 12 [13, 14, 15, 16, 17, 18, 19, 20] (k := ?_)
      refine ra_first 13 [] [14, 15, 16, 17, 18, 19, 20] (hq := by first | exact q_pick_t | exact q_pick_f) (k := ?_)
      refine ra_first 14 [] [15, 16, 17, 18, 19, 20] (hq := by exact q_move) (k := ?_)
      refine ra_skip 15 [16, 17, 18, 19, 20] (k := ?_)
      refine ra_skip 16 [17, 18, 19, 20] (k := ?_)
      refine ra_skip 17 [18, 19, 20] (k := ?_)
      refine ra_skip 18 [19, 20] (k := ?_)
      refine ra_first 19 [] [20] (hq := by first | exact q_pick_t | exact q_pick_f) (k := ?_)
      refine ra_first 20 [] [] (hq := by exact q_assign) (k := ?_)
      refine ra_done ?_
      refine sp_then ?_
      refine sw_seq ?_
      refine sw_region ?_
      refine r_move (k := ?_)
      refine sl_nil ?_
      refine sp_then ?_
      refine swd_f (h := ?_)
      refine sw_skip ?_
      refine sp_block ?_
      refine sp_then ?_
      refine sw_region ?_
      refine r_add64 (k := ?_)
      refine r_move (k := ?_)
      refine sl_nil ?_
      refine sp_drop rfl ?_
      refine sp_loop (ι := { n : Nat // n ≤ 4 ∧ (Y.take n).any (fun y => voidBy x y i) = false }) ⟨n + 1, by omega, hnext hvb⟩ ?_ ?_
      · dsimp only; omega
      · exact Ent.mk' (by repeat' (first | trivial | exact rfl | apply And.intro)) (by repeat' (first | trivial | exact .head _ | exact .tail _ (.head _) | exact .tail _ (.tail _ (.head _)) | exact .tail _ (.tail _ (.tail _ (.head _))) | exact .tail _ (.tail _ (.tail _ (.tail _ (.head _)))) | exact .tail _ (.tail _ (.tail _ (.tail _ (.tail _ (.head _))))) | exact .tail _ (.tail _ (.tail _ (.tail _ (.tail _ (.tail _ (.head _)))))) | exact .tail _ (.tail _ (.tail _ (.tail _ (.tail _ (.tail _ (.tail _ (.head _))))))) | exact .tail _ (.tail _ (.tail _ (.tail _ (.tail _ (.tail _ (.tail _ (.tail _ (.head _)))))))) | exact .tail _ (.tail _ (.tail _ (.tail _ (.tail _ (.tail _ (.tail _ (.tail _ (.tail _ (.head _))))))))) | exact .tail _ (.tail _ (.tail _ (.tail _ (.tail _ (.tail _ (.tail _ (.tail _ (.tail _ (.tail _ (.head _)))))))))) | exact .tail _ (.tail _ (.tail _ (.tail _ (.tail _ (.tail _ (.tail _ (.tail _ (.tail _ (.tail _ (.tail _ (.head _))))))))))) | apply And.intro))
  · have h := of_decide_eq_false h
    obtain rfl : n = 4 := by omega
    rw [List.take_of_length_le (by omega)] at hno
    refine sw_exit ?_
    refine sp_then_exit ?_
    refine sp_loop_exit ?_
    refine sp_block_exit ?_
    refine sp_then ?_
    refine sw_seq ?_
    refine sw_region ?_
    refine r_move (k := ?_)
    refine r_assign (k := ?_)
    refine sl_nil ?_
    refine sp_then ?_
    refine sw_ret ?_
    refine sp_ng_ret ?_
    refine sp_retv rfl rfl (.tmp rfl) rfl rfl ⟨?_, rfl, rfl⟩ (by simp) rfl (by simp)
    rw [hv false (by rw [hno, Bool.and_false])]
end Go.Proofs.YtjahiohlekdhoaaDoor
