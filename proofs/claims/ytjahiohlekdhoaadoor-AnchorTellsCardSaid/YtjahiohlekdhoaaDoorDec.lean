/-
  The walk of anchor.Decode.
-/
import Derived.Test.YtjahiohlekdhoaaDoorAnchor2
import Derived.Test.YtjahiohlekdhoaaDoorE15
import Derived.Test.YtjahiohlekdhoaaDoorPack2
namespace Go.Proofs.YtjahiohlekdhoaaDoor
open Go
set_option maxHeartbeats 4000000
set_option maxRecDepth 4000
attribute [local irreducible] SW SL SP RA Then FQ IQ LoopQ RQ AQ NX CutQ Exit.noGoto

/-- An anchor, its key's bytes as they are. -/
structure AncP where
  tx : UInt32
  size : UInt16
  root : PtrV
  count : UInt32
  live : UInt8
  both : UInt32
  on : UInt8
  disk : UInt8
  since : UInt32
  key : List UInt8
  deriving DecidableEq
def AncV.pure (a : AncV) : AncP := ⟨a.tx, a.size, a.root, a.count, a.live, a.both, a.mark.on, a.mark.disk, a.mark.since, a.mark.key.xs⟩
def AncP.zero : AncP := ⟨0, 0, PtrV.none, 0, 0, 0, 0, 0, 0, []⟩
def AncP.withKey (a : AncP) (k : BS) : AncV := ⟨a.tx, a.size, a.root, a.count, a.live, a.both, ⟨a.on, a.disk, a.since, k⟩⟩
/-- A cut of a page that changes no more. -/
def cutP (b : Nat) (p : List UInt8) (l h : Nat) : BS := ⟨some ⟨b, l, none⟩, 256 - l, (p.drop l).take (h - l)⟩
theorem cutP_v (b : Nat) (p : List UInt8) (hp : p.length = 256) (l h : Nat) (hh : h ≤ 256) : (cutP b p l h).v = .slice (some ⟨b, l * 1, none⟩) (h - l) (256 - l) := by
  have : ((p.drop l).take (h - l)).length = h - l := by simp; omega
  simp only [cutP, BS.v, this, Nat.mul_one]
theorem cutP_ok (b : Nat) (p : List UInt8) (hp : p.length = 256) (l h : Nat) (hh : h ≤ 256) : (cutP b p l h).ok :=
  ⟨by simp only [cutP, List.length_take, List.length_drop]; omega, by show 256 - l ≤ maxLen; unfold maxLen; omega⟩
theorem cutP_res {b : Nat} {p : List UInt8} {l h : Nat} {V : Av} {w : World} (hm : (Res.mem (some ⟨b, 0, none⟩) (bv p)).p V w) : (cutP b p l h).res.p V w := by
  intro i v hv
  have e : bv (cutP b p l h).xs = part' (bv p) l (h - l) := (bv_cut p l (h - l)).symm
  rw [e] at hv
  obtain ⟨h1, h2⟩ := part'_get hv
  obtain ⟨a, ha, hn, hc⟩ := hm _ _ h2
  cases ha
  refine ⟨_, rfl, hn, ?_⟩
  rw [addr_add] at hc ⊢
  rw [← hc]
  congr 2; omega

def badP (n : UInt8) (p : List UInt8) : Bool := decide ((n.toNat : Int) ≠ 65) || decide (((unle (p.drop 248)).toNat : Int) ≠ ((sum (p.take 248)).toNat : Int))

/-- The state of Decode's loop. -/
structure DS where
  rest : List UInt8
  l : List UInt64
  i : Nat
  root : PtrV
def takeN (d : DS) (x : UInt64 × Nat) : DS := if x.2 = 0 then ⟨d.rest.drop 17, d.l, d.i + 1, ptake d.rest⟩ else ⟨d.rest.drop x.2, d.l.set d.i (unle (d.rest.take x.2)), d.i + 1, d.root⟩
def admD (d : DS) (x : UInt64 × Nat) : Prop := x.2 ≤ 8 ∧ 17 ≤ d.rest.length ∧ d.i < 9 ∧ d.l.length = 9
theorem adm_take {go : DS → Bool} : ∀ (L : List (UInt64 × Nat)) (d : DS), (∀ q ∈ L, q.2 ≤ 8) → d.i + L.length ≤ 9 → 17 * L.length ≤ d.rest.length → d.l.length = 9 → Adm takeN go admD d L
  | [], _, _, _, _, _ => trivial
  | x :: l, d, hq, hi, hr, hl => by
    have h8 := hq x (.head _)
    simp only [List.length_cons] at hi hr
    refine ⟨⟨h8, by omega, by omega, hl⟩, fun _ => adm_take l _ (fun q h => hq q (.tail _ h)) ?_ ?_ ?_⟩
    · unfold takeN; split <;> (dsimp only; omega)
    · unfold takeN; split <;> (simp only [List.length_drop]; omega)
    · unfold takeN; split <;> simp [hl]
def ancWith (r : PtrV) : AncV := ({ AncP.zero with root := r } : AncP).withKey BS.nil

/-- What the numbers' loop comes to. -/
def decD (p : List UInt8) : DS := (ancWith PtrV.none).nums.foldl takeN ⟨(p.drop 1).take 247, List.replicate 9 0, 0, PtrV.none⟩
def DS.anc (d : DS) (key : List UInt8) : AncP := ⟨(d.l.getD 0 0).toUInt32, (d.l.getD 1 0).toUInt16, d.root, (d.l.getD 3 0).toUInt32, (d.l.getD 4 0).toUInt8, (d.l.getD 5 0).toUInt32, (d.l.getD 6 0).toUInt8, (d.l.getD 7 0).toUInt8, (d.l.getD 8 0).toUInt32, key⟩
/-- What Decode tells of what the numbers' loop comes to. -/
def decR (d : DS) : AncP × Int := match d.rest with
  | [] => (AncP.zero, 50)
  | m :: r => if (takeB m r 8).2.2 = 0 ∧ ((d.anc (takeB m r 8).1).withKey ⟨none, 0, (takeB m r 8).1⟩).right = true ∧ (takeB m r 8).2.1.any nonzero = false then (d.anc (takeB m r 8).1, 0) else (AncP.zero, 50)
/-- What Decode tells of a page n :: l. -/
def decV (n : UInt8) (p : List UInt8) : AncP × Int := bif badP n p then (AncP.zero, 50) else decR (decD p)
theorem marked_pure (a b : MkV) (tx : UInt32) (h1 : a.on = b.on) (h2 : a.disk = b.disk) (h3 : a.since = b.since) (h4 : a.key.xs = b.key.xs) : markedV a tx = markedV b tx := by
  unfold markedV; rw [h1, h2, h3, h4]
theorem right_pure {a b : AncV} (h : a.pure = b.pure) : a.right = b.right := by
  obtain ⟨h1, h2, h3, h4, h5, h6, h7, h8, h9, h10⟩ := AncP.mk.inj h
  have hm := marked_pure a.mark b.mark b.tx h7 h8 h9 h10
  unfold AncV.right AncV.fine
  rw [h1, h2, h3, h4, h5, h6, hm]

theorem takeN_len (d : DS) (x : UInt64 × Nat) : (takeN d x).l.length = d.l.length := by unfold takeN; split <;> simp
theorem foldN_len : ∀ (L : List (UInt64 × Nat)) (d : DS), (L.foldl takeN d).l.length = d.l.length
  | [], _ => rfl
  | x :: l, d => (foldN_len l _).trans (takeN_len d x)
theorem decD_len (p : List UInt8) (_ : p.length = 256) : (decD p).l.length = 9 := (foldN_len _ _).trans (by simp)
theorem decD_rest (p : List UInt8) (hp : p.length = 256) : (decD p).rest.length = 209 := by
  simp [decD, AncV.nums, takeN, hp]
theorem nine {α : Type} {l : List α} (h : l.length = 9) : ∃ a b c d e f g i j, l = [a, b, c, d, e, f, g, i, j] := by
  match l, h with
  | [a, b, c, d, e, f, g, i, j], _ => exact ⟨a, b, c, d, e, f, g, i, j, rfl⟩

theorem c_decode (n : UInt8) (l : List UInt8) (hp : (n :: l).length = 256) : Ctr Tryd.prog GW 16 [.agg (bv (n :: l)).toArray] [] [] (retF fun v Φ' => ∃ a : AncV, v = .tuple #[a.v, vi (decV n (n :: l)).2] ∧ a.mark.key.ok ∧ a.pure = (decV n (n :: l)).1 ∧ Φ' = [a.mark.key.res]) := by
  refine Ctr.intro Tryd.func16 (by kernel_rfl) rfl Tryd.ntmps16 rfl rfl rfl fun w X => ?_
  refine sw_seq ?_
  refine sw_region ?_
  refine r_box (cs := bv (n :: l)) (by exact rfl) rfl (by exact rfl) fun b1 => ?_
  refine o_freeze ?_
  refine r_alloc (by exact z32) (cs := (AncP.zero.withKey BS.nil).cs) (by kernel_rfl) (by exact rfl) fun b2 => ?_
  refine r_assign (k := ?_)
  refine sl_nil ?_
  refine sp_then ?_
  refine sw_seq ?_
  refine sw_seq ?_
  refine sw_region ?_
  obtain ⟨p, hpe⟩ : ∃ p, p = n :: l := ⟨_, rfl⟩
  rw [← hpe] at hp ⊢
  have hp0 : (bv p)[0 + 0 * 1]? = some (v8 n) := by rw [hpe]; rfl
  refine r_cut_arr (l := 248) (h := 256) (len := 256) (by exact ta rfl) (by exact rfl) ⟨_, rfl⟩ rfl (by omega) (by omega) (by omega) (by exact rfl) ?_
  refine r_re (t := 14) (v' := (cutP b1 p 248 256).v) rfl (cutP_v b1 p hp 248 256 (by omega)).symm ?_
  refine f_have (φ := (cutP b1 p 248 256).res) (fun V w hw => cutP_res (hw _ (.head _))) ?_
  refine r_callF (c_take GW (cutP b1 p 248 256) (cutP_ok b1 p hp _ _ (by omega)) 8 (by decide) (by decide) (by simp [cutP]; omega)) (by exact rfl) (by exact rfl) (by exact rfl) (by simp) (by exact rfl) ?_
  rintro _ _ ⟨r0, rfl, hr0, hx0, rfl⟩
  have e0 : unle ((cutP b1 p 248 256).xs.take 8) = unle (p.drop 248) := by
    congr 1
    have hl8 : (p.drop 248).length = 8 := by simp [hp]
    simp only [cutP]
    rw [List.take_of_length_le (by simp [hl8]), List.take_of_length_le (by simp [hl8])]
  rw [e0]
  refine r_move (k := ?_)
  refine r_ext (k := ?_)
  refine r_ext (k := ?_)
  refine r_ext (k := ?_)
  refine r_assign (k := ?_)
  refine r_assign (k := ?_)
  refine r_assign (k := ?_)
  refine sl_nil ?_
  refine sp_then ?_
  refine sw_cut [(1, .pointer (some ⟨b1, 0, none⟩)), (2, .pointer (some ⟨b2, 0, none⟩)), (3, vi 0), (28, vb (badP n p))] [.box b2 (AncP.zero.withKey BS.nil).cs 32] [Res.mem (some ⟨b1, 0, none⟩) (bv p)] [] ?_ ?_
  · refine sw_region ?_
    refine r_idx_arr (k := ?_)
    refine r_load_fr1 (by exact tz rfl) (by exact rfl) (by first | exact .head _ | exact .tail _ (.head _) | exact .tail _ (.tail _ (.head _)) | exact .tail _ (.tail _ (.tail _ (.head _))) | exact .tail _ (.tail _ (.tail _ (.tail _ (.head _)))) | exact .tail _ (.tail _ (.tail _ (.tail _ (.tail _ (.head _))))) | exact .tail _ (.tail _ (.tail _ (.tail _ (.tail _ (.tail _ (.head _)))))) | exact .tail _ (.tail _ (.tail _ (.tail _ (.tail _ (.tail _ (.tail _ (.head _))))))) | exact .tail _ (.tail _ (.tail _ (.tail _ (.tail _ (.tail _ (.tail _ (.tail _ (.head _)))))))) | exact .tail _ (.tail _ (.tail _ (.tail _ (.tail _ (.tail _ (.tail _ (.tail _ (.tail _ (.head _))))))))) | exact .tail _ (.tail _ (.tail _ (.tail _ (.tail _ (.tail _ (.tail _ (.tail _ (.tail _ (.tail _ (.head _)))))))))) | exact .tail _ (.tail _ (.tail _ (.tail _ (.tail _ (.tail _ (.tail _ (.tail _ (.tail _ (.tail _ (.tail _ (.head _)))))))))))) hp0 (by exact rfl) ?_
    refine r_neq (k := ?_)
    refine r_move (k := ?_)
    refine g_part (h1 := fun hg => ?_) (h2 := fun hg => ?_)
    focus
      refine gd_no (k := ?_)
      refine gd_no (k := ?_)
      refine gd_no (k := ?_)
      refine gd_no (k := ?_)
      refine gd_no (k := ?_)
      refine rd_pick_t (k := ?_)
      refine sl_nil ?_
    rotate_left 1
    focus
      refine gd_yes (k := ?_)
      refine r_move (k := ?_)
      refine gd_yes (k := ?_)
    rotate_left 1
    · refine sp_re (t := 28) (v' := vb (badP n p)) rfl ?_ (sp_cut (by repeat' (first | trivial | exact rfl | apply And.intro)) (by repeat' (first | trivial | exact .head _ | exact .tail _ (.head _) | exact .tail _ (.tail _ (.head _)) | exact .tail _ (.tail _ (.tail _ (.head _))) | exact .tail _ (.tail _ (.tail _ (.tail _ (.head _)))) | exact .tail _ (.tail _ (.tail _ (.tail _ (.tail _ (.head _))))) | exact .tail _ (.tail _ (.tail _ (.tail _ (.tail _ (.tail _ (.head _)))))) | exact .tail _ (.tail _ (.tail _ (.tail _ (.tail _ (.tail _ (.tail _ (.head _))))))) | exact .tail _ (.tail _ (.tail _ (.tail _ (.tail _ (.tail _ (.tail _ (.tail _ (.head _)))))))) | exact .tail _ (.tail _ (.tail _ (.tail _ (.tail _ (.tail _ (.tail _ (.tail _ (.tail _ (.head _))))))))) | exact .tail _ (.tail _ (.tail _ (.tail _ (.tail _ (.tail _ (.tail _ (.tail _ (.tail _ (.tail _ (.head _)))))))))) | exact .tail _ (.tail _ (.tail _ (.tail _ (.tail _ (.tail _ (.tail _ (.tail _ (.tail _ (.tail _ (.tail _ (.head _))))))))))) | apply And.intro)))
      simp_all [badP]
    · refine r_cut_arr (l := 0) (h := 248) (len := 256) (by exact ta rfl) (by exact rfl) rfl ⟨_, rfl⟩ (by omega) (by omega) (by omega) (by exact rfl) ?_
      refine r_re (t := 24) (v' := (cutP b1 p 0 248).v) rfl (cutP_v b1 p hp 0 248 (by omega)).symm ?_
      refine gd_yes (k := ?_)
      refine r_lit (vs := [(cutP b1 p 0 248).v]) (xs := [.tmp 24]) (cells := [(cutP b1 p 0 248).v]) (by exact tl rfl) (by exact z28) (by exact rfl) (by exact rfl) (by intro v hv; simp at hv; subst hv; rfl) (by decide) (by decide) (by exact rfl) (by exact rfl) (by exact rfl) fun q => ?_
      refine o_row fun ba cap e h1 h2 h3 => ?_
      cases e
      refine f_have (φ := Res.all [cutP b1 p 0 248] BS.res) (fun V w h q hq => ?_) ?_
      · simp at hq
        subst hq
        exact cutP_res (h _ (by first | exact .head _ | exact .tail _ (.head _) | exact .tail _ (.tail _ (.head _)) | exact .tail _ (.tail _ (.tail _ (.head _))) | exact .tail _ (.tail _ (.tail _ (.tail _ (.head _)))) | exact .tail _ (.tail _ (.tail _ (.tail _ (.tail _ (.head _))))) | exact .tail _ (.tail _ (.tail _ (.tail _ (.tail _ (.tail _ (.head _)))))) | exact .tail _ (.tail _ (.tail _ (.tail _ (.tail _ (.tail _ (.tail _ (.head _))))))) | exact .tail _ (.tail _ (.tail _ (.tail _ (.tail _ (.tail _ (.tail _ (.tail _ (.head _)))))))) | exact .tail _ (.tail _ (.tail _ (.tail _ (.tail _ (.tail _ (.tail _ (.tail _ (.tail _ (.head _))))))))) | exact .tail _ (.tail _ (.tail _ (.tail _ (.tail _ (.tail _ (.tail _ (.tail _ (.tail _ (.tail _ (.head _)))))))))) | exact .tail _ (.tail _ (.tail _ (.tail _ (.tail _ (.tail _ (.tail _ (.tail _ (.tail _ (.tail _ (.tail _ (.head _)))))))))))))
      refine gd_yes (k := ?_)
      refine r_call1 (c_sum GW (some ⟨q, 0, none⟩) 1 [cutP b1 p 0 248] (by intro p' hp'; simp at hp'; subst hp'; exact cutP_ok b1 p hp _ _ (by omega)) (by simp [maxLen])) (by exact rfl) (by exact rfl) (by exact rfl) (by simp [partsV]) (by exact rfl) ?_
      refine gd_yes (k := ?_)
      refine r_neq (k := ?_)
      refine rd_pick_f (k := ?_)
      refine sl_nil ?_
      refine sp_re (t := 28) (v' := vb (badP n p)) rfl ?_ (sp_cut (by repeat' (first | trivial | exact rfl | apply And.intro)) (by repeat' (first | trivial | exact .head _ | exact .tail _ (.head _) | exact .tail _ (.tail _ (.head _)) | exact .tail _ (.tail _ (.tail _ (.head _))) | exact .tail _ (.tail _ (.tail _ (.tail _ (.head _)))) | exact .tail _ (.tail _ (.tail _ (.tail _ (.tail _ (.head _))))) | exact .tail _ (.tail _ (.tail _ (.tail _ (.tail _ (.tail _ (.head _)))))) | exact .tail _ (.tail _ (.tail _ (.tail _ (.tail _ (.tail _ (.tail _ (.head _))))))) | exact .tail _ (.tail _ (.tail _ (.tail _ (.tail _ (.tail _ (.tail _ (.tail _ (.head _)))))))) | exact .tail _ (.tail _ (.tail _ (.tail _ (.tail _ (.tail _ (.tail _ (.tail _ (.tail _ (.head _))))))))) | exact .tail _ (.tail _ (.tail _ (.tail _ (.tail _ (.tail _ (.tail _ (.tail _ (.tail _ (.tail _ (.head _)))))))))) | exact .tail _ (.tail _ (.tail _ (.tail _ (.tail _ (.tail _ (.tail _ (.tail _ (.tail _ (.tail _ (.tail _ (.head _))))))))))) | apply And.intro)))
      simp_all [badP, flat, cutP]
  refine sw_cond rfl (fun h => ?_) (fun h => ?_)
  · have e : decV n p = (AncP.zero, 50) := by unfold decV; rw [h]; rfl
    rw [e]
    refine sw_seq ?_
    refine sw_region ?_
    refine r_load_all (k := ?_)
    refine r_store_all (k := ?_)
    refine r_assign (k := ?_)
    refine sl_nil ?_
    refine sp_then ?_
    refine sw_ret ?_
    refine sp_then_ret ?_
    refine sp_of_sl (fun h => f_have (φ := BS.nil.res) (fun V w hw => nil_res) h) ?_
    refine sp_ret2 rfl rfl (.agg rfl (tz rfl) rfl (.head _)) (.tmp rfl) rfl rfl ⟨rfl, AncP.zero.withKey BS.nil, rfl, ⟨Nat.le_refl _, Nat.zero_le _⟩, rfl, rfl⟩ (by simp) rfl (by simp; exact .inl rfl)
  · refine sw_skip ?_
    refine sp_then ?_
    refine sw_seq ?_
    refine sw_region ?_
    refine r_alloc (by exact z95) (by exact rfl) (by exact rfl) fun b7 => ?_
    refine sl_nil ?_
    refine sp_then ?_
    refine sw_seq ?_
    refine sw_region ?_
    refine r_cut_arr (l := 1) (h := 248) (len := 256) (by exact ta rfl) (by exact rfl) ⟨_, rfl⟩ ⟨_, rfl⟩ (by omega) (by omega) (by omega) (by exact rfl) ?_
    refine r_re (t := 30) (v' := (cutP b1 p 1 248).v) rfl (cutP_v b1 p hp 1 248 (by omega)).symm ?_
    refine f_have (φ := (cutP b1 p 1 248).res) (fun V w hw => cutP_res (hw _ (by first | exact .head _ | exact .tail _ (.head _) | exact .tail _ (.tail _ (.head _)) | exact .tail _ (.tail _ (.tail _ (.head _))) | exact .tail _ (.tail _ (.tail _ (.tail _ (.head _)))) | exact .tail _ (.tail _ (.tail _ (.tail _ (.tail _ (.head _))))) | exact .tail _ (.tail _ (.tail _ (.tail _ (.tail _ (.tail _ (.head _)))))) | exact .tail _ (.tail _ (.tail _ (.tail _ (.tail _ (.tail _ (.tail _ (.head _))))))) | exact .tail _ (.tail _ (.tail _ (.tail _ (.tail _ (.tail _ (.tail _ (.tail _ (.head _)))))))) | exact .tail _ (.tail _ (.tail _ (.tail _ (.tail _ (.tail _ (.tail _ (.tail _ (.tail _ (.head _))))))))) | exact .tail _ (.tail _ (.tail _ (.tail _ (.tail _ (.tail _ (.tail _ (.tail _ (.tail _ (.tail _ (.head _)))))))))) | exact .tail _ (.tail _ (.tail _ (.tail _ (.tail _ (.tail _ (.tail _ (.tail _ (.tail _ (.tail _ (.tail _ (.head _)))))))))))))) ?_
    refine r_alloc (by exact z28) (by exact rfl) (by exact rfl) fun b8 => ?_
    refine r_alloc (by exact z3) (by exact rfl) (by exact rfl) fun b9 => ?_
    refine r_store_all (k := ?_)
    refine r_store_all (k := ?_)
    refine sl_nil ?_
    refine sp_then ?_
    refine sw_seq ?_
    refine sw_seq ?_
    refine sw_region ?_
    refine r_load_all (k := ?_)
    refine r_callF (c_numbers GW (ancWith PtrV.none)) (by exact rfl) (by exact rfl) (by exact rfl) (by simp) (by exact rfl) ?_
    rintro _ _ ⟨q1, q3, rfl, rfl⟩
    refine f_have (φ := Res.pure ((cutP b1 p 1 248).xs = (p.drop 1).take 247)) (fun _ _ _ => rfl) ?_
    refine f_set [Res.mem (some ⟨q1, 0, none⟩) (ancWith PtrV.none).cs, Res.mem (some ⟨q3, 0, none⟩) (widthsV (ancWith PtrV.none).nums), Res.pure ((cutP b1 p 1 248).xs = (p.drop 1).take 247), (cutP b1 p 1 248).res, Res.mem (some ⟨b1, 0, none⟩) (bv p)] (fun V w hw φ hφ => hw φ (by simp at hφ ⊢; rcases hφ with rfl | rfl | rfl | rfl | rfl <;> simp)) ?_
    refine sl_nil ?_
    refine sp_then ?_
    refine sw_block ?_
    refine sw_rangeA (ι := { s : BS // s.ok }) (i_numbers GW q1 q3 (ancWith PtrV.none)) (fun d i => [.box b9 [vi (d.i : Int)] 3, .box b8 [i.1.v] 28, .box b7 (d.l.map v64) 95, .box b2 (ancWith d.root).cs 32]) (fun d i => [Res.pure (i.1.xs = d.rest), i.1.res, Res.mem (some ⟨b1, 0, none⟩) (bv p)]) takeN admD ⟨(p.drop 1).take 247, List.replicate 9 0, 0, PtrV.none⟩ ⟨cutP b1 p 1 248, cutP_ok b1 p hp _ _ (by omega)⟩ rfl rfl rfl (adm_take _ _ (by intro q hq; simp [AncV.nums] at hq; rcases hq with rfl | rfl | rfl | rfl | rfl | rfl | rfl | rfl | rfl <;> simp) (by simp [AncV.nums]) (by simp [AncV.nums]; omega) (by simp)) (fun φ h => List.mem_append_left _ h) (fun φ h => .tail _ (.tail _ h)) (fun _ _ => rfl) rfl (fun x vs V w h => by rw [show vs = _ from h]; rfl) ?_ ?_
    · rintro l mk rec w X U K d ⟨i, hi⟩ x vs hrec ⟨h8, h17, hi9, hl9⟩ ht
      refine w_pure ?_
      rintro rfl
      refine w_pure ?_
      intro hx
      dsimp only at hx ⊢
      refine sw_region ?_
      refine r_assign (k := ?_)
      refine sl_nil ?_
      refine sp_asgR hrec rfl ?_
      dsimp only [pull, push, two, List.drop, List.take, List.cons_append, List.nil_append]
      refine sw_block ?_
      refine sw_seq ?_
      refine sw_seq ?_
      refine sw_region ?_
      refine r_move (k := ?_)
      refine r_eql (k := ?_)
      refine sl_nil ?_
      refine sp_then ?_
      refine sw_cond rfl (fun h => ?_) (fun h => ?_)
      · have h := of_decide_eq_true h
        have e2 : takeN d x = ⟨d.rest.drop 17, d.l, d.i + 1, ptake d.rest⟩ := if_pos (by omega)
        refine sw_region ?_
        refine r_load_one (k := ?_)
        refine r_callF (c_ptake i hi (by rw [hx]; exact h17)) (by exact rfl) (by exact rfl) (by exact rfl) (by simp) (by exact rfl) ?_
        rintro _ _ ⟨r, rfl, hr, hxr, rfl⟩
        rw [hx] at hxr
        rw [hx]
        refine r_move (k := ?_)
        refine r_ext (k := ?_)
        refine r_ext (k := ?_)
        refine r_ext (k := ?_)
        refine r_fieldAddr (k := ?_)
        refine r_store (vs := (ptake d.rest).cs) (cs' := (ancWith (ptake d.rest)).cs) (by exact tz rfl) (by exact rfl) (by exact rfl) (by first | exact .hd | exact .tl (.hd) | exact .tl (.tl (.hd)) | exact .tl (.tl (.tl (.hd))) | exact .tl (.tl (.tl (.tl (.hd)))) | exact .tl (.tl (.tl (.tl (.tl (.hd))))) | exact .tl (.tl (.tl (.tl (.tl (.tl (.hd)))))) | exact .tl (.tl (.tl (.tl (.tl (.tl (.tl (.hd))))))) | exact .tl (.tl (.tl (.tl (.tl (.tl (.tl (.tl (.hd)))))))) | exact .tl (.tl (.tl (.tl (.tl (.tl (.tl (.tl (.tl (.hd))))))))) | exact .tl (.tl (.tl (.tl (.tl (.tl (.tl (.tl (.tl (.tl (.hd)))))))))) | exact .tl (.tl (.tl (.tl (.tl (.tl (.tl (.tl (.tl (.tl (.tl (.hd)))))))))))) rfl rfl rfl (Nat.le_of_ble_eq_true rfl) rfl ?_
        refine r_store_all (k := ?_)
        refine sl_nil ?_
        refine sp_then ?_
        refine sw_region ?_
        refine r_load_one (k := ?_)
        refine r_add64 (k := ?_)
        refine r_store_all (k := ?_)
        refine sl_nil ?_
        refine sp_block ?_
        rw [e2]
        refine sp_of_sl (fun h => f_have (φ := Res.pure (r.xs = d.rest.drop 17)) (fun _ _ _ => hxr) h) ?_
        refine sp_round (ι := { s : BS // s.ok }) (i' := ⟨r, hr⟩) ht hrec ?_ ?_ ?_
        · rfl
        · exact List.Sublist.refl _
        · simp
      · have h := of_decide_eq_false h
        have e2 : takeN d x = ⟨d.rest.drop x.2, d.l.set d.i (unle (d.rest.take x.2)), d.i + 1, d.root⟩ := if_neg (by omega)
        refine sw_draw [(none, .box b9 [vi (d.i : Int)] 3), (some 10, .box b8 [i.v] 28)] [i.res, Res.mem (some ⟨b1, 0, none⟩) (bv p)] [0, 1, 2, 3, 4, 5, 6, 7, 8, 9, 10] mix (by kernel_rfl) rfl ?_
        refine ra_first 0 [(none, .box b9 [vi (d.i : Int)] 3)] [1, 2, 3, 4, 5, 6, 7, 8, 9, 10] (hq := by first | exact q_load_one | exact q_load_all | exact q_load_fr1 | exact q_load_fr) (k := ?_)
        refine ra_first 1 [(some 10, .box b8 [i.v] 28)] [2, 3, 4, 5, 6, 7, 8, 9, 10] (hq := by first | exact q_load_one | exact q_load_all | exact q_load_fr1 | exact q_load_fr) (k := ?_)
        refine ra_first 2 [] [3, 4, 5, 6, 7, 8, 9, 10] (hq := by exact q_move) (k := ?_)
        refine ra1 (i := 3) [4, 5, 6, 7, 8, 9, 10] (h := ?_)
        refine r_callF (c_take GW i hi x.2 (by omega) h8 (by rw [hx]; omega)) (by exact rfl) (by exact rfl) (by exact rfl) (by simp) (by exact rfl) ?_
        rintro _ _ ⟨r, rfl, hr, hxr, rfl⟩
        rw [hx] at hxr
        rw [hx]
        refine sl_nil ?_
        refine sp_nx (k := ?_)
        refine ra_first 4 [] [5, 6, 7, 8, 9, 10] (hq := by exact q_move) (k := ?_)
        refine ra_first 5 [] [6, 7, 8, 9, 10] (hq := by exact q_ext) (k := ?_)
        refine ra_first 6 [] [7, 8, 9, 10] (hq := by exact q_ext) (k := ?_)
        refine ra_first 7 [] [8, 9, 10] (hq := by exact q_ext) (k := ?_)
        refine ra_first 8 [] [9, 10] (hq := by exact q_idx_arr) (k := ?_)
        refine ra1 (i := 9) [10] (h := ?_)
        refine r_store1 (cs := d.l.map v64) (by exact tz rfl) (by exact rfl) (by exact rfl) (by exact rfl) rfl (by first | exact .hd | exact .tl (.hd) | exact .tl (.tl (.hd)) | exact .tl (.tl (.tl (.hd))) | exact .tl (.tl (.tl (.tl (.hd)))) | exact .tl (.tl (.tl (.tl (.tl (.hd))))) | exact .tl (.tl (.tl (.tl (.tl (.tl (.hd)))))) | exact .tl (.tl (.tl (.tl (.tl (.tl (.tl (.hd))))))) | exact .tl (.tl (.tl (.tl (.tl (.tl (.tl (.tl (.hd)))))))) | exact .tl (.tl (.tl (.tl (.tl (.tl (.tl (.tl (.tl (.hd))))))))) | exact .tl (.tl (.tl (.tl (.tl (.tl (.tl (.tl (.tl (.tl (.hd)))))))))) | exact .tl (.tl (.tl (.tl (.tl (.tl (.tl (.tl (.tl (.tl (.tl (.hd)))))))))))) (by simp [Nat.blt_eq, hl9]; omega) rfl ?_
        refine sl_nil ?_
        refine sp_nx (k := ?_)
        refine ra1 (i := 10) [] (h := ?_)
        refine r_store_all (k := ?_)
        refine sl_nil ?_
        refine sp_nx (k := ?_)
        refine ra_done ?_
        refine sp_then ?_
        refine sw_region ?_
        refine r_load_one (k := ?_)
        refine r_add64 (k := ?_)
        refine r_store_all (k := ?_)
        refine sl_nil ?_
        refine sp_block ?_
        rw [e2]
        refine sp_of_sl (fun h => f_have (φ := Res.pure (r.xs = d.rest.drop x.2)) (fun _ _ _ => hxr) h) ?_
        refine sp_eqB (B' := two rec l mk .busy none [.box b9 [vi ((d.i + 1 : Nat) : Int)] 3, .box b8 [r.v] 28, .box b7 ((d.l.set d.i (unle (d.rest.take x.2))).map v64) 95, .box b2 (ancWith d.root).cs 32]) (by simp [two, List.map_set]) ?_
        refine sp_round (ι := { s : BS // s.ok }) (i' := ⟨r, hr⟩) ht hrec ?_ ?_ ?_
        · rfl
        · exact List.Sublist.refl _
        · simp
    · rintro ⟨i, hi⟩ mk
      have hd9 := decD_len p hp
      have hdr := decD_rest p hp
      refine sp_block ?_
      refine sp_then ?_
      refine sw_seq ?_
      refine sw_region ?_
      refine r_load_one (k := ?_)
      refine f_pure fun hx => ?_
      have hx : i.xs = (decD p).rest := hx
      obtain ⟨D, hD⟩ : ∃ D, D = decD p := ⟨_, rfl⟩
      have hdv : decV n p = decR (decD p) := by unfold decV; rw [h]; rfl
      rw [hdv]
      clear hdv
      rw [← hD] at hx hd9 hdr ⊢
      rw [show List.foldl takeN _ _ = D from hD.symm]
      obtain ⟨rs, lst, ii, root⟩ := D
      dsimp only at hx hd9 hdr ⊢
      obtain ⟨m, r, rfl⟩ : ∃ m r, rs = m :: r := by
        cases rs with
        | nil => simp at hdr
        | cons m r => exact ⟨m, r, rfl⟩
      obtain ⟨n0, n1, n2, n3, n4, n5, n6, n7, n8, rfl⟩ : ∃ n0 n1 n2 n3 n4 n5 n6 n7 n8, lst = [n0, n1, n2, n3, n4, n5, n6, n7, n8] := nine hd9
      refine r_callF (c_takeBytes GW i hi m r hx (by simp at hdr; omega) 8) (by exact rfl) (by exact rfl) (by exact rfl) (by simp) (by exact rfl) ?_
      rintro _ _ ⟨kb, rb, rfl, hk, hr, hkx, hrx, rfl⟩
      refine r_move (k := ?_)
      refine r_ext (k := ?_)
      refine r_ext (k := ?_)
      refine r_ext (k := ?_)
      refine r_assign (k := ?_)
      refine r_store_all (k := ?_)
      refine r_assign (k := ?_)
      refine sl_nil ?_
      refine sp_then ?_
      refine sw_seq ?_
      refine sw_draw [(none, .box b7 [v64 n0, v64 n1, v64 n2, v64 n3, v64 n4, v64 n5, v64 n6, v64 n7, v64 n8] 95)] [] [0, 1, 2, 3, 4, 5, 6, 7, 8, 9, 10, 11, 12, 13, 14, 15, 16, 17, 18, 19, 20, 21, 22, 23, 24] mix (by kernel_rfl) rfl ?_
      refine ra_first 0 [] [1, 2, 3, 4, 5, 6, 7, 8, 9, 10, 11, 12, 13, 14, 15, 16, 17, 18, 19, 20, 21, 22, 23, 24] (hq := by exact q_idx_arr) (k := ?_)
      refine ra_first 1 [(none, .box b7 [v64 n0, v64 n1, v64 n2, v64 n3, v64 n4, v64 n5, v64 n6, v64 n7, v64 n8] 95)] [2, 3, 4, 5, 6, 7, 8, 9, 10, 11, 12, 13, 14, 15, 16, 17, 18, 19, 20, 21, 22, 23, 24] (hq := by first | exact q_load_one | exact q_load_all | exact q_load_fr1 | exact q_load_fr) (k := ?_)
      refine ra_first 2 [] [3, 4, 5, 6, 7, 8, 9, 10, 11, 12, 13, 14, 15, 16, 17, 18, 19, 20, 21, 22, 23, 24] (hq := by first | exact q_cv_64_8 | exact q_cv_64_16 | exact q_cv_64_32 | exact q_cv_8_64 | exact q_cv_8_i) (k := ?_)
      refine ra_first 3 [] [4, 5, 6, 7, 8, 9, 10, 11, 12, 13, 14, 15, 16, 17, 18, 19, 20, 21, 22, 23, 24] (hq := by exact q_idx_arr) (k := ?_)
      refine ra_first 4 [(none, .box b7 [v64 n0, v64 n1, v64 n2, v64 n3, v64 n4, v64 n5, v64 n6, v64 n7, v64 n8] 95)] [5, 6, 7, 8, 9, 10, 11, 12, 13, 14, 15, 16, 17, 18, 19, 20, 21, 22, 23, 24] (hq := by first | exact q_load_one | exact q_load_all | exact q_load_fr1 | exact q_load_fr) (k := ?_)
      refine ra_first 5 [] [6, 7, 8, 9, 10, 11, 12, 13, 14, 15, 16, 17, 18, 19, 20, 21, 22, 23, 24] (hq := by first | exact q_cv_64_8 | exact q_cv_64_16 | exact q_cv_64_32 | exact q_cv_8_64 | exact q_cv_8_i) (k := ?_)
      refine ra_first 6 [] [7, 8, 9, 10, 11, 12, 13, 14, 15, 16, 17, 18, 19, 20, 21, 22, 23, 24] (hq := by exact q_idx_arr) (k := ?_)
      refine ra_first 7 [(none, .box b7 [v64 n0, v64 n1, v64 n2, v64 n3, v64 n4, v64 n5, v64 n6, v64 n7, v64 n8] 95)] [8, 9, 10, 11, 12, 13, 14, 15, 16, 17, 18, 19, 20, 21, 22, 23, 24] (hq := by first | exact q_load_one | exact q_load_all | exact q_load_fr1 | exact q_load_fr) (k := ?_)
      refine ra_first 8 [] [9, 10, 11, 12, 13, 14, 15, 16, 17, 18, 19, 20, 21, 22, 23, 24] (hq := by first | exact q_cv_64_8 | exact q_cv_64_16 | exact q_cv_64_32 | exact q_cv_8_64 | exact q_cv_8_i) (k := ?_)
      refine ra_first 9 [] [10, 11, 12, 13, 14, 15, 16, 17, 18, 19, 20, 21, 22, 23, 24] (hq := by exact q_idx_arr) (k := ?_)
      refine ra_first 10 [(none, .box b7 [v64 n0, v64 n1, v64 n2, v64 n3, v64 n4, v64 n5, v64 n6, v64 n7, v64 n8] 95)] [11, 12, 13, 14, 15, 16, 17, 18, 19, 20, 21, 22, 23, 24] (hq := by first | exact q_load_one | exact q_load_all | exact q_load_fr1 | exact q_load_fr) (k := ?_)
      refine ra_first 11 [] [12, 13, 14, 15, 16, 17, 18, 19, 20, 21, 22, 23, 24] (hq := by first | exact q_cv_64_8 | exact q_cv_64_16 | exact q_cv_64_32 | exact q_cv_8_64 | exact q_cv_8_i) (k := ?_)
      refine ra_first 12 [] [13, 14, 15, 16, 17, 18, 19, 20, 21, 22, 23, 24] (hq := by exact q_idx_arr) (k := ?_)
      refine ra_first 13 [(none, .box b7 [v64 n0, v64 n1, v64 n2, v64 n3, v64 n4, v64 n5, v64 n6, v64 n7, v64 n8] 95)] [14, 15, 16, 17, 18, 19, 20, 21, 22, 23, 24] (hq := by first | exact q_load_one | exact q_load_all | exact q_load_fr1 | exact q_load_fr) (k := ?_)
      refine ra_first 14 [] [15, 16, 17, 18, 19, 20, 21, 22, 23, 24] (hq := by first | exact q_cv_64_8 | exact q_cv_64_16 | exact q_cv_64_32 | exact q_cv_8_64 | exact q_cv_8_i) (k := ?_)
      refine ra_first 15 [] [16, 17, 18, 19, 20, 21, 22, 23, 24] (hq := by exact q_fieldAddr) (k := ?_)
      refine ra1 (i := 16) [17, 18, 19, 20, 21, 22, 23, 24] (h := ?_)
      refine r_store1 (k := ?_)
      refine sl_nil ?_
      refine sp_nx (k := ?_)
      refine ra_first 17 [] [18, 19, 20, 21, 22, 23, 24] (hq := by exact q_fieldAddr) (k := ?_)
      refine ra1 (i := 18) [19, 20, 21, 22, 23, 24] (h := ?_)
      refine r_store1 (k := ?_)
      refine sl_nil ?_
      refine sp_nx (k := ?_)
      refine ra_first 19 [] [20, 21, 22, 23, 24] (hq := by exact q_fieldAddr) (k := ?_)
      refine ra1 (i := 20) [21, 22, 23, 24] (h := ?_)
      refine r_store1 (k := ?_)
      refine sl_nil ?_
      refine sp_nx (k := ?_)
      refine ra_first 21 [] [22, 23, 24] (hq := by exact q_fieldAddr) (k := ?_)
      refine ra1 (i := 22) [23, 24] (h := ?_)
      refine r_store1 (k := ?_)
      refine sl_nil ?_
      refine sp_nx (k := ?_)
      refine ra_first 23 [] [24] (hq := by exact q_fieldAddr) (k := ?_)
      refine ra1 (i := 24) [] (h := ?_)
      refine r_store1 (k := ?_)
      refine sl_nil ?_
      refine sp_nx (k := ?_)
      refine ra_done ?_
      refine sp_then ?_
      refine sw_seq ?_
      refine sw_region ?_
      refine r_idx_arr (k := ?_)
      refine r_load_one (k := ?_)
      refine r_cv_64_8 (k := ?_)
      refine r_idx_arr (k := ?_)
      refine r_load_one (k := ?_)
      refine r_cv_64_8 (k := ?_)
      refine r_idx_arr (k := ?_)
      refine r_load_one (k := ?_)
      refine r_cv_64_32 (k := ?_)
      refine r_move (k := ?_)
      refine r_buildP [v8 n6.toUInt8, v8 n7.toUInt8, v32 n8.toUInt32, kb.v] (parts := [(0, .tmp 83), (1, .tmp 86), (2, .tmp 89), (3, .tmp 90)]) (by exact rfl) (by kernel_rfl) (by exact rfl) ?_
      refine r_fieldAddr (k := ?_)
      obtain ⟨A, hA⟩ : ∃ A : AncV, A = ((⟨m :: r, [n0, n1, n2, n3, n4, n5, n6, n7, n8], ii, root⟩ : DS).anc kb.xs).withKey kb := ⟨_, rfl⟩
      refine r_store (vs := [v8 n6.toUInt8, v8 n7.toUInt8, v32 n8.toUInt32, kb.v]) (cs' := A.cs) (by exact tz rfl) (by exact rfl) (by exact rfl) (by first | exact .hd | exact .tl (.hd) | exact .tl (.tl (.hd)) | exact .tl (.tl (.tl (.hd))) | exact .tl (.tl (.tl (.tl (.hd)))) | exact .tl (.tl (.tl (.tl (.tl (.hd))))) | exact .tl (.tl (.tl (.tl (.tl (.tl (.hd)))))) | exact .tl (.tl (.tl (.tl (.tl (.tl (.tl (.hd))))))) | exact .tl (.tl (.tl (.tl (.tl (.tl (.tl (.tl (.hd)))))))) | exact .tl (.tl (.tl (.tl (.tl (.tl (.tl (.tl (.tl (.hd))))))))) | exact .tl (.tl (.tl (.tl (.tl (.tl (.tl (.tl (.tl (.tl (.hd)))))))))) | exact .tl (.tl (.tl (.tl (.tl (.tl (.tl (.tl (.tl (.tl (.tl (.hd)))))))))))) rfl rfl rfl (Nat.le_of_ble_eq_true rfl) (by rw [hA]; rfl) ?_
      have hAk : A.mark.key = kb := by rw [hA]; rfl
      have hAp : A.pure = (⟨m :: r, [n0, n1, n2, n3, n4, n5, n6, n7, n8], ii, root⟩ : DS).anc kb.xs := by rw [hA]; rfl
      have hAr : A.right = (((⟨m :: r, [n0, n1, n2, n3, n4, n5, n6, n7, n8], ii, root⟩ : DS).anc kb.xs).withKey ⟨none, 0, kb.xs⟩).right := right_pure (by rw [hAp]; rfl)
      have hAl : A.cs.length = 14 := rfl
      have hAo : A.cs.all Value.oneCell' = true := rfl
      have hdc : decR ⟨m :: r, [n0, n1, n2, n3, n4, n5, n6, n7, n8], ii, root⟩ = if (takeB m r 8).2.2 = 0 ∧ A.right = true ∧ rb.xs.any nonzero = false then (A.pure, 0) else (AncP.zero, 50) := by
        rw [hAr, hAp, hkx, hrx]; rfl
      rw [hdc]
      clear hdc
      refine sl_nil ?_
      refine sp_then ?_
      refine sw_seq ?_
      refine sw_seq ?_
      refine sw_region ?_
      refine r_move (k := ?_)
      refine r_neq (k := ?_)
      refine r_move (k := ?_)
      refine g_part (h1 := fun hg => ?_) (h2 := fun hg => ?_)
      focus
        refine gd_no (k := ?_)
        refine gd_no (k := ?_)
        refine gd_no (k := ?_)
        refine rd_pick_t (k := ?_)
        refine r_move (k := ?_)
        refine gd_no (k := ?_)
        refine gd_no (k := ?_)
        refine gd_no (k := ?_)
        refine rd_pick_t (k := ?_)
        refine sl_nil ?_
        refine sp_then ?_
        refine swd_t (h := ?_)
        refine sw_seq ?_
        refine sw_region ?_
      rotate_left 1
      focus
        refine gd_yes (k := ?_)
        refine r_load_all (k := ?_)
        refine gd_yes (k := ?_)
      rotate_left 1
      any_goals refine r_call1 (c_right GW A) (by exact rfl) (by exact rfl) (by exact rfl) (by rw [hAk]; simp) (by exact rfl) ?_
      rotate_left 1
      focus
        refine gd_yes (k := ?_)
        refine r_not (k := ?_)
        refine rd_pick_f (k := ?_)
        refine r_move (k := ?_)
        refine g_part (h1 := fun hg => ?_) (h2 := fun hg => ?_)
        focus
          refine gd_no (k := ?_)
          refine gd_no (k := ?_)
          refine gd_no (k := ?_)
          refine rd_pick_t (k := ?_)
          refine sl_nil ?_
          refine sp_then ?_
          refine swd_t (h := ?_)
          refine sw_seq ?_
          refine sw_region ?_
        rotate_left 1
        focus
          refine gd_yes (k := ?_)
          refine r_load_one (k := ?_)
          refine gd_yes (k := ?_)
        rotate_left 1
      rotate_left 2
      any_goals refine r_call1 (c_clean GW rb hr) (by exact rfl) (by exact rfl) (by exact rfl) (by simp) (by exact rfl) ?_
      rotate_left 1
      rotate_left 1
      focus
        refine gd_yes (k := ?_)
        refine r_not (k := ?_)
        refine rd_pick_f (k := ?_)
        refine sl_nil ?_
        refine sp_then ?_
        refine sw_cond (h1 := fun hg => ?_) (h2 := fun hg => ?_)
        focus
          refine sw_seq ?_
          refine sw_region ?_
        rotate_left 1
        focus
          refine sw_skip ?_
          refine sp_then ?_
          refine sw_seq ?_
          refine sw_region ?_
          refine r_load_all (k := ?_)
          refine r_store_all (k := ?_)
          refine r_assign (k := ?_)
          refine sl_nil ?_
          refine sp_then ?_
          refine sw_ret ?_
        rotate_left 1
      rotate_left 2
      any_goals
        (refine r_buildP (AncP.zero.withKey BS.nil).cs (parts := []) (by exact rfl) (by kernel_rfl) (by exact rfl) ?_
         refine r_store_all (k := ?_)
         refine r_assign (k := ?_)
         refine sl_nil ?_
         refine sp_then ?_
         refine sw_ret ?_
         refine sp_then_ret ?_
         refine sp_of_sl (fun h => f_have (φ := BS.nil.res) (fun V w hw => nil_res) h) ?_
         rw [if_neg (by simp_all)]
         refine sp_ret2 rfl rfl (.agg rfl (tz rfl) rfl (.tail _ (.tail _ (.tail _ (.tail _ (.head _)))))) (.tmp rfl) rfl rfl ⟨rfl, AncP.zero.withKey BS.nil, rfl, ⟨Nat.le_refl _, Nat.zero_le _⟩, rfl, rfl⟩ (by simp) rfl (by simp; exact .inl rfl))
      rw [if_pos (by simp_all)]
      refine sp_ret2 rfl rfl (.agg rfl (tz rfl) hAl (.tail _ (.tail _ (.tail _ (.tail _ (.head _)))))) (.tmp rfl) rfl rfl ⟨rfl, A, rfl, by rw [hAk]; exact hk, rfl, rfl⟩ (by simp) rfl (by rw [hAk]; simp)
end Go.Proofs.YtjahiohlekdhoaaDoor
