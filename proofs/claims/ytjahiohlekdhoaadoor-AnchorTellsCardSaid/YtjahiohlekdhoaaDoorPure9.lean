/-
  Anchors and their pages, plain: what is decoded is encoded as it was, and the other way about.
-/
import Derived.Test.YtjahiohlekdhoaaDoorBurst
import Derived.Test.YtjahiohlekdhoaaDoorDec
import Derived.Test.YtjahiohlekdhoaaDoorEnc
namespace Go.Proofs.YtjahiohlekdhoaaDoor
open Go

theorem page_pure {a b : AncV} (h : a.pure = b.pure) : a.page = b.page := by
  obtain ⟨h1, h2, h3, h4, h5, h6, h7, h8, h9, h10⟩ := AncP.mk.inj h
  have hn : a.nums = b.nums := by unfold AncV.nums; rw [h1, h2, h4, h5, h6, h7, h8, h9]
  have hh : a.head = b.head := by
    unfold AncV.head
    rw [hn]
    have : putN a = putN b := by funext s p; unfold putN; rw [h3]
    rw [this]
  have hb : a.body = b.body := by unfold AncV.body; rw [hh, h10]
  unfold AncV.page
  rw [hb]

/-- The bytes behind the first one, ahead of the key. -/
def AncV.nine (a : AncV) : List UInt8 := le 4 a.tx.toUInt64 ++ (le 2 a.size.toUInt64 ++ (a.root.bytes ++ (le 4 a.count.toUInt64 ++ (le 1 a.live.toUInt64 ++ (le 4 a.both.toUInt64 ++ (le 1 a.mark.on.toUInt64 ++ (le 1 a.mark.disk.toUInt64 ++ le 4 a.mark.since.toUInt64)))))))
theorem head_nine (a : AncV) : a.head = 65 :: a.nine := by simp [AncV.head, AncV.nums, putN, AncV.nine]

/-- A list in nine pieces and a rest. -/
structure Pieces (q : List UInt8) where
  t : List UInt8
  s : List UInt8
  r : List UInt8
  c : List UInt8
  l : List UInt8
  b : List UInt8
  o : List UInt8
  d : List UInt8
  i : List UInt8
  z : List UInt8
  eq : q = t ++ (s ++ (r ++ (c ++ (l ++ (b ++ (o ++ (d ++ (i ++ z))))))))
  ht : t.length = 4
  hs : s.length = 2
  hr : r.length = 17
  hc : c.length = 4
  hl : l.length = 1
  hb : b.length = 4
  ho : o.length = 1
  hd : d.length = 1
  hi : i.length = 4

theorem piece (q : List UInt8) (n k : Nat) (h : n ≤ q.length) : ∃ a r, q = a ++ r ∧ a.length = n ∧ r.length = q.length - n ∧ k = k :=
  ⟨q.take n, q.drop n, (List.take_append_drop n q).symm, by simp; omega, by simp, rfl⟩
theorem pieces (q : List UInt8) (h : 38 ≤ q.length) : Nonempty (Pieces q) := by
  obtain ⟨t, q1, rfl, ht, h1, _⟩ := piece q 4 0 (by omega)
  simp only [List.length_append, ht] at h
  obtain ⟨s, q2, rfl, hs, h2, _⟩ := piece q1 2 0 (by omega)
  simp only [List.length_append, hs] at h
  obtain ⟨r, q3, rfl, hr, h3, _⟩ := piece q2 17 0 (by omega)
  simp only [List.length_append, hr] at h
  obtain ⟨c, q4, rfl, hc, h4, _⟩ := piece q3 4 0 (by omega)
  simp only [List.length_append, hc] at h
  obtain ⟨l, q5, rfl, hl, h5, _⟩ := piece q4 1 0 (by omega)
  simp only [List.length_append, hl] at h
  obtain ⟨b, q6, rfl, hb, h6, _⟩ := piece q5 4 0 (by omega)
  simp only [List.length_append, hb] at h
  obtain ⟨o, q7, rfl, ho, h7, _⟩ := piece q6 1 0 (by omega)
  simp only [List.length_append, ho] at h
  obtain ⟨d, q8, rfl, hd, h8, _⟩ := piece q7 1 0 (by omega)
  simp only [List.length_append, hd] at h
  obtain ⟨i, z, rfl, hi, h9, _⟩ := piece q8 4 0 (by omega)
  exact ⟨⟨t, s, r, c, l, b, o, d, i, z, rfl, ht, hs, hr, hc, hl, hb, ho, hd, hi⟩⟩

theorem ptake_app (r s : List UInt8) (h : r.length = 17) : ptake (r ++ s) = ptake r := by
  have := bytes_ptake (ptake r) s
  rwa [ptake_bytes r h] at this
theorem takeN_eq (w : Nat) (hw : ¬ w = 0) (x : UInt64) (a rest : List UInt8) (l : List UInt64) (i : Nat) (root : PtrV) (h : a.length = w) : takeN ⟨a ++ rest, l, i, root⟩ (x, w) = ⟨rest, l.set i (unle a), i + 1, root⟩ := by
  unfold takeN
  rw [if_neg hw]
  simp only [List.drop_left' h, List.take_left' h]
theorem takeN_root (x : UInt64) (a rest : List UInt8) (l : List UInt64) (i : Nat) (root : PtrV) (h : a.length = 17) : takeN ⟨a ++ rest, l, i, root⟩ (x, 0) = ⟨rest, l, i + 1, ptake a⟩ := by
  unfold takeN
  rw [if_pos rfl]
  simp only [List.drop_left' h, ptake_app a rest h]
theorem decD_pieces {p q : List UInt8} (hq : (p.drop 1).take 247 = q) (P : Pieces q) : decD p = ⟨P.z, [unle P.t, unle P.s, 0, unle P.c, unle P.l, unle P.b, unle P.o, unle P.d, unle P.i], 9, ptake P.r⟩ := by
  have e := hq.trans P.eq
  unfold decD
  rw [e]
  simp only [AncV.nums, List.foldl_cons, List.foldl_nil]
  rw [takeN_eq 4 (by decide) _ _ _ _ _ _ P.ht, takeN_eq 2 (by decide) _ _ _ _ _ _ P.hs, takeN_root _ _ _ _ _ _ P.hr, takeN_eq 4 (by decide) _ _ _ _ _ _ P.hc, takeN_eq 1 (by decide) _ _ _ _ _ _ P.hl, takeN_eq 4 (by decide) _ _ _ _ _ _ P.hb,
    takeN_eq 1 (by decide) _ _ _ _ _ _ P.ho, takeN_eq 1 (by decide) _ _ _ _ _ _ P.hd, takeN_eq 4 (by decide) _ _ _ _ _ _ P.hi]
  rfl

/-- The anchor that pieces tell, with a key. -/
def Pieces.anc {q : List UInt8} (P : Pieces q) (key : BS) : AncV := ⟨(unle P.t).toUInt32, (unle P.s).toUInt16, ptake P.r, (unle P.c).toUInt32, (unle P.l).toUInt8, (unle P.b).toUInt32, ⟨(unle P.o).toUInt8, (unle P.d).toUInt8, (unle P.i).toUInt32, key⟩⟩
theorem Pieces.nine {q : List UInt8} (P : Pieces q) (key : BS) : (P.anc key).nine ++ P.z = q := by
  simp only [AncV.nine, Pieces.anc, le4_of _ P.ht, le2_of _ P.hs, ptake_bytes _ P.hr, le4_of _ P.hc, le1_of _ P.hl, le4_of _ P.hb, le1_of _ P.ho, le1_of _ P.hd, le4_of _ P.hi]
  refine Eq.trans ?_ P.eq.symm
  simp only [List.append_assoc]

theorem clean_zeros : ∀ (l : List UInt8), l.any nonzero = false → l = zeros l.length
  | [], _ => rfl
  | b :: l, h => by
    simp only [List.any_cons, Bool.or_eq_false_iff] at h
    have hb : b = 0 := by
      have := h.1
      simp only [nonzero, ne_eq, decide_not, Bool.not_eq_false', decide_eq_true_eq] at this
      exact UInt8.toNat_inj.1 (by simpa using this)
    rw [hb, clean_zeros l h.2]
    simp [zeros, List.replicate_succ]
theorem zeros_clean (n : Nat) : (zeros n).any nonzero = false := by
  rw [List.any_eq_false]
  intro x hx
  rw [zeros, List.mem_replicate] at hx
  rw [hx.2]; decide

/-- WHAT IS DECODED HAS JUST THIS PAGE, AND MAY BE. -/
theorem dec_page {n : UInt8} {l : List UInt8} (hp : (n :: l).length = 256) {a : AncV} (h : decV n (n :: l) = (a.pure, 0)) : a.right = true ∧ a.page = n :: l := by
  unfold decV at h
  cases hb : badP n (n :: l) with
  | true => rw [hb] at h; simp at h
  | false =>
    rw [hb] at h
    simp only [cond_false] at h
    simp only [badP, Bool.or_eq_false_iff, decide_eq_false_iff_not, ne_eq, Decidable.not_not, Int.ofNat_inj] at hb
    obtain ⟨hn, hsum⟩ := hb
    have hn65 : n = 65 := UInt8.toNat_inj.1 (by have : (n.toNat : Int) = 65 := hn; exact Int.ofNat_inj.1 this)
    have hsum : unle ((n :: l).drop 248) = sum ((n :: l).take 248) := UInt64.toNat_inj.1 hsum
    subst hn65
    have hll : l.length = 255 := by simpa using hp
    obtain ⟨P⟩ := pieces (((65 :: l : List UInt8).drop 1).take 247) (by simp [hll])
    have hzl : P.z.length = 209 := by
      have := congrArg List.length P.eq
      simp only [List.length_append, P.ht, P.hs, P.hr, P.hc, P.hl, P.hb, P.ho, P.hd, P.hi, List.length_take, List.length_drop, List.length_cons, hll] at this
      omega
    rw [decD_pieces rfl P] at h
    obtain ⟨m, r, hmr⟩ : ∃ m r, P.z = m :: r := by
      cases hz : P.z with
      | nil => rw [hz] at hzl; cases hzl
      | cons m r => exact ⟨m, r, rfl⟩
    unfold decR at h
    rw [hmr] at h
    dsimp only at h
    split at h
    · rename_i hc
      obtain ⟨he, hr, hcl⟩ := hc
      have hpure := (Prod.mk.inj h).1
      have hm8 := lt8 m
      have hrl : r.length = 208 := by rw [hmr] at hzl; simpa using hzl
      have htb : takeB m r 8 = (r.take m.toNat, r.drop m.toNat, 0) ∧ m.toNat ≤ 8 := by
        unfold takeB at he ⊢
        split
        · rename_i h1; rw [if_pos h1] at he; cases he
        · rename_i h1
          rw [if_neg h1] at he
          split
          · rename_i h2; rw [if_pos h2] at he; cases he
          · exact ⟨rfl, by omega⟩
      rw [htb.1] at hr hcl hpure
      have ha : a.pure = (P.anc ⟨none, 0, r.take m.toNat⟩).pure := by rw [← hpure]; rfl
      refine ⟨(right_pure ha).trans (by rw [← hr]; rfl), ?_⟩
      rw [page_pure ha]
      have hkl : (r.take m.toNat).length = m.toNat := by simp; omega
      have hbody : (P.anc ⟨none, 0, r.take m.toNat⟩).body = 65 :: ((P.anc ⟨none, 0, r.take m.toNat⟩).nine ++ (m :: r.take m.toNat)) := by
        unfold AncV.body
        rw [head_nine]
        have : UInt8.ofNat (P.anc ⟨none, 0, r.take m.toNat⟩).mark.key.xs.length = m := by
          show UInt8.ofNat (r.take m.toNat).length = m
          rw [hkl]; simp
        rw [this]
        rfl
      have hpad : padTo 248 (P.anc ⟨none, 0, r.take m.toNat⟩).body = (65 :: l : List UInt8).take 248 := by
        have hq := P.nine ⟨none, 0, r.take m.toNat⟩
        rw [hmr] at hq
        have hd : r.drop m.toNat = zeros (208 - m.toNat) := by
          have := clean_zeros _ hcl
          rw [List.length_drop, hrl] at this
          exact this
        have hnl : (P.anc ⟨none, 0, r.take m.toNat⟩).nine.length = 38 := by
          have := congrArg List.length (head_nine (P.anc ⟨none, 0, r.take m.toNat⟩))
          rw [head_len] at this
          simpa using this.symm
        have hbl : (P.anc ⟨none, 0, r.take m.toNat⟩).body.length = 40 + m.toNat := by rw [hbody]; simp [hnl, hkl]; omega
        rw [padTo, hbl, List.take_of_length_le (by omega), hbody, show 248 - (40 + m.toNat) = 208 - m.toNat by omega]
        rw [show List.replicate (208 - m.toNat) (0 : UInt8) = r.drop m.toNat from hd.symm, List.cons_append, List.append_assoc, List.cons_append, List.take_append_drop, hq]
        simp
      unfold AncV.page
      rw [hpad, ← hsum, le_unle' _ 8 (by simp [hll]) (by omega), List.take_append_drop]
    · have := (Prod.mk.inj h).2
      cases this

theorem padTo_le (n : Nat) (l : List UInt8) (h : l.length ≤ n) : padTo n l = l ++ zeros (n - l.length) := by rw [padTo, List.take_of_length_le h]; rfl
theorem page_head (a : AncV) (hk : a.mark.key.xs.length ≤ 8) : a.page = 65 :: (a.nine ++ (UInt8.ofNat a.mark.key.xs.length :: (a.mark.key.xs ++ (zeros (208 - a.mark.key.xs.length) ++ le 8 (sum (padTo 248 a.body)))))) := by
  have hbl := body_len a
  unfold AncV.page
  rw [padTo_le 248 _ (by omega), hbl]
  unfold AncV.body
  rw [head_nine, show 248 - (40 + a.mark.key.xs.length) = 208 - a.mark.key.xs.length by omega]
  simp only [List.cons_append, List.append_assoc]
/-- AN ANCHOR THAT MAY BE IS DECODED AS IT IS. -/
theorem page_dec (a : AncV) (h : a.right = true) : decV 65 a.page = (a.pure, 0) := by
  have hk := right_key a h
  have hph := page_head a hk
  have hlen := page_len a
  have hpl : (padTo 248 a.body).length = 248 := padTo_len _ _
  have htake : a.page.take 248 = padTo 248 a.body := List.take_left' hpl
  have hdrop : a.page.drop 248 = le 8 (sum (padTo 248 a.body)) := List.drop_left' hpl
  have hbad : badP 65 a.page = false := by
    simp only [badP, hdrop, htake, unle_le_id 8 _ (by omega) (show _ < 256 ^ 8 from lt64 _)]
    simp
  have hnl : a.nine.length = 38 := by
    have := congrArg List.length (head_nine a)
    rw [head_len] at this
    simpa using this.symm
  have hq : (a.page.drop 1).take 247 = a.nine ++ (UInt8.ofNat a.mark.key.xs.length :: (a.mark.key.xs ++ zeros (208 - a.mark.key.xs.length))) := by
    have e : a.page.drop 1 = (a.nine ++ (UInt8.ofNat a.mark.key.xs.length :: (a.mark.key.xs ++ zeros (208 - a.mark.key.xs.length)))) ++ le 8 (sum (padTo 248 a.body)) := by
      rw [hph, List.drop_one, List.tail_cons]
      simp only [List.append_assoc, List.cons_append]
    rw [e]
    exact List.take_left' (by simp [hnl, zeros]; omega)
  unfold decV
  rw [hbad]
  simp only [cond_false]
  have hP : decD a.page = ⟨UInt8.ofNat a.mark.key.xs.length :: (a.mark.key.xs ++ zeros (208 - a.mark.key.xs.length)), [unle (le 4 a.tx.toUInt64), unle (le 2 a.size.toUInt64), 0, unle (le 4 a.count.toUInt64), unle (le 1 a.live.toUInt64), unle (le 4 a.both.toUInt64), unle (le 1 a.mark.on.toUInt64), unle (le 1 a.mark.disk.toUInt64), unle (le 4 a.mark.since.toUInt64)], 9, ptake a.root.bytes⟩ :=
    decD_pieces hq ⟨le 4 a.tx.toUInt64, le 2 a.size.toUInt64, a.root.bytes, le 4 a.count.toUInt64, le 1 a.live.toUInt64, le 4 a.both.toUInt64, le 1 a.mark.on.toUInt64, le 1 a.mark.disk.toUInt64, le 4 a.mark.since.toUInt64, _, by simp only [AncV.nine, List.append_assoc], le_length _ _, le_length _ _, bytes_len _, le_length _ _, le_length _ _, le_length _ _, le_length _ _, le_length _ _, le_length _ _⟩
  rw [hP]
  have hkn : (UInt8.ofNat a.mark.key.xs.length).toNat = a.mark.key.xs.length := by rw [UInt8.toNat_ofNat']; omega
  have htb : takeB (UInt8.ofNat a.mark.key.xs.length) (a.mark.key.xs ++ zeros (208 - a.mark.key.xs.length)) 8 = (a.mark.key.xs, zeros (208 - a.mark.key.xs.length), 0) := by
    unfold takeB
    rw [hkn, if_neg (by simp only [List.length_append]; omega), if_neg (by omega), List.take_left' rfl, List.drop_left' rfl]
  have hptr : ptake a.root.bytes = a.root := by have := bytes_ptake a.root []; rwa [List.append_nil] at this
  have hanc : (DS.anc ⟨UInt8.ofNat a.mark.key.xs.length :: (a.mark.key.xs ++ zeros (208 - a.mark.key.xs.length)), [unle (le 4 a.tx.toUInt64), unle (le 2 a.size.toUInt64), 0, unle (le 4 a.count.toUInt64), unle (le 1 a.live.toUInt64), unle (le 4 a.both.toUInt64), unle (le 1 a.mark.on.toUInt64), unle (le 1 a.mark.disk.toUInt64), unle (le 4 a.mark.since.toUInt64)], 9, ptake a.root.bytes⟩ a.mark.key.xs) = a.pure := by
    simp only [DS.anc, List.getD_cons_zero, List.getD_cons_succ, of_le4, of_le2, of_le1, hptr]
    rfl
  unfold decR
  dsimp only
  rw [htb]
  dsimp only
  rw [hanc, if_pos ⟨rfl, (right_pure (a := a.pure.withKey ⟨none, 0, a.mark.key.xs⟩) (b := a) rfl).trans h, zeros_clean _⟩]

/-- The two ways in one. -/
theorem dec_or (n : UInt8) (p : List UInt8) : (decV n p).2 = 0 ∨ (decV n p = (AncP.zero, 50)) := by
  unfold decV
  cases badP n p with
  | true => exact .inr rfl
  | false =>
    simp only [cond_false]
    unfold decR
    split
    · exact .inr rfl
    · split
      · exact .inl rfl
      · exact .inr rfl
end Go.Proofs.YtjahiohlekdhoaaDoor
