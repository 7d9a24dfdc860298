/-
  The walks of vdev.Read: the last write at a place.
  The walks of package mirror: a pair of disks, of which the power stays on.
  The walks of package mirror: a disk of a pair is written to.
  The walks of new disks and pairs.
  The walks of ring's places.
  The walk of suturelaw09.wakes.
  Whole numbers as bytes, and back (plain).
  What a check sum tells of bytes that are changed within eight: it changes (plain).
  Anchors and their pages, plain: what is decoded is encoded as it was, and the other way about.
  The walk of suturelaw09.AnchorJust: it tells true.
  The walks of ring's slots.
  The walks of the ring laws' anchors.
  The walk of ring.Slots.
  The walk of ring.Slots.
  The walk of ring.has.
-/
import Derived.Test.YtjahiohlekdhoaaDoorRingSplitM5
import Derived.Test.YtjahiohlekdhoaaDoorRingSplitM4
import Derived.Test.YtjahiohlekdhoaaDoorRingSplitM3
import Derived.Stop.BytesEq
namespace Go.Proofs.YtjahiohlekdhoaaDoor
open Go
set_option maxHeartbeats 4000000
set_option maxRecDepth 4000
attribute [local irreducible] SW SL SP RA Then FQ IQ LoopQ RQ AQ NX CutQ Exit.noGoto

/-- What the writes at a place are. -/
def lastsOf (n : Int) : List WrV → List (List UInt8)
  | [] => []
  | x :: l => if x.at' = n then x.data :: lastsOf n l else lastsOf n l
section
variable {σ : Type} (Y : σ → List UInt8 → σ) (go : σ → Bool) (A : σ → List UInt8 → Prop) (n : Int)
def stepL (s : σ × Bool) (x : WrV) : σ × Bool := if x.at' = n then (Y s.1 x.data, !go (Y s.1 x.data)) else (s.1, false)
def jmpL (s : σ × Bool) : Option Code := bif s.2 then some .ret else none
def admL (s : σ × Bool) (x : WrV) : Prop := go s.1 = true ∧ (x.at' = n → A s.1 x.data)
variable {Y go A n}
theorem adm_last : ∀ (M : List WrV) (s : σ), go s = true → Adm Y go A s (lastsOf n M) → Adm (stepL Y go n) (fun s => (jmpL s).isNone) (admL go A n) (s, false) M
  | [], _, _, _ => trivial
  | x :: l, s, hg, h => by
    by_cases e : x.at' = n
    · rw [lastsOf, if_pos e] at h
      refine ⟨⟨hg, fun _ => h.1⟩, fun h' => ?_⟩
      have es : stepL Y go n (s, false) x = (Y s x.data, !go (Y s x.data)) := if_pos e
      rw [es] at h' ⊢
      cases hg' : go (Y s x.data)
      · rw [hg'] at h'; simp [jmpL] at h'
      · exact adm_last l _ hg' (h.2 hg')
    · rw [lastsOf, if_neg e] at h
      refine ⟨⟨hg, fun e' => absurd e' e⟩, fun _ => ?_⟩
      have es : stepL Y go n (s, false) x = (s, false) := if_neg e
      rw [es]
      exact adm_last l s hg h
theorem runs_last : ∀ (M : List WrV) (s : σ), (runs (stepL Y go n) (fun s => (jmpL s).isNone) (s, false) M).1 = runs Y go s (lastsOf n M)
  | [], _ => rfl
  | x :: l, s => by
    by_cases e : x.at' = n
    · have es : stepL Y go n (s, false) x = (Y s x.data, !go (Y s x.data)) := if_pos e
      rw [lastsOf, if_pos e]
      cases hg' : go (Y s x.data)
      · rw [hg'] at es
        rw [runs_stop (by rw [es]; rfl), runs_stop hg', es]
      · rw [hg'] at es
        rw [runs_cons (by rw [es]; rfl), runs_cons hg', es]
        exact runs_last l _
    · have es : stepL Y go n (s, false) x = (s, false) := if_neg e
      rw [lastsOf, if_neg e, runs_cons (by rw [es]; rfl), es]
      exact runs_last l s
end

theorem c_last (G : Res) (d : DiskV) (n : Int) : Ctr Tryd.prog G 121 [d.v, vi n] [] [] (retF fun v Φ' => ∃ b b', v = .func (.func 128) #[] #[.pointer (some ⟨b, 0, none⟩), .pointer (some ⟨b', 0, none⟩)] ∧ Φ' = [Res.mem (some ⟨b, 0, none⟩) d.cs, Res.mem (some ⟨b', 0, none⟩) [vi n]]) := by
  refine Ctr.intro Tryd.func121 (by kernel_rfl) rfl Tryd.ntmps121 rfl rfl rfl fun w X => ?_
  refine sw_seq ?_
  refine sw_region ?_
  refine r_box (k := fun bx => ?_)
  refine r_box (k := fun bx => ?_)
  refine r_assign (k := ?_)
  refine sl_nil ?_
  refine sp_then ?_
  refine sw_seq ?_
  refine sw_region ?_
  refine r_clos (k := ?_)
  refine r_assign (k := ?_)
  refine sl_nil ?_
  refine sp_then ?_
  refine sw_ret ?_
  refine sp_freeze ?_
  refine sp_freeze ?_
  refine sp_retv rfl rfl (.tmp rfl) rfl rfl ⟨rfl, _, _, rfl, rfl⟩ (by simp) rfl (by simp)

def pElt (p : List UInt8) (vs : List Value) : Res := Res.pure (p.length = 256 ∧ vs = [.agg (bv p).toArray])
theorem i_last (G : Res) (b b' : Nat) (d : DiskV) (hd : d.ok) (n : Int) : ICtr Tryd.prog G 128 [.pointer (some ⟨b, 0, none⟩), .pointer (some ⟨b', 0, none⟩)] [] [Res.mem (some ⟨b, 0, none⟩) d.cs, Res.mem (some ⟨b', 0, none⟩) [vi n], d.rc] pElt (lastsOf n d.cache.xs.reverse) := by
  refine ICtr.intro Tryd.func128 (by kernel_rfl) rfl Tryd.ntmps128 rfl rfl (fun _ => rfl) fun σ J Y go A l s0 w' X M hgo hA hY => ?_
  refine sw_seq ?_
  refine sw_region ?_
  refine r_box (cs := [yv l]) (by exact rfl) rfl (by exact rfl) fun b3 => ?_
  refine o_freeze ?_
  refine sl_nil ?_
  refine sp_then ?_
  refine sw_seq ?_
  refine sw_region ?_
  refine r_fieldAddr (k := ?_)
  refine r_load_fr1 (k := ?_)
  refine r_callF (c_backW G d.cache) (by exact rfl) (by exact rfl) (by exact rfl) (by simp) (by exact rfl) ?_
  rintro _ _ ⟨b4, rfl, rfl⟩
  refine sl_nil ?_
  refine sp_then ?_
  refine sw_block ?_
  refine sw_rangeI (ps := [9, 10]) (Φ0 := [Res.mem (some ⟨b3, 0, none⟩) [yv l], Res.mem (some ⟨b, 0, none⟩) d.cs, Res.mem (some ⟨b', 0, none⟩) [vi n]]) (Jo := J) (i_backW G b4 d hd) (fun s : σ × Bool => s.1) jmpL (stepL Y go n) (admL go A n) (s0, false) rfl hY rfl rfl (adm_last _ s0 hgo hA) rfl (by simp) (by simp) rfl (fun x vs V w h => by obtain ⟨_, i, rfl⟩ := h; rfl) ?_ ?_
  · rintro l2 mk rec w X2 U M2 K Yv ⟨s, st⟩ x vs hrec hj ⟨hg, hAx⟩ ht hY2
    have hst : st = false := by cases st <;> simp_all [jmpL]
    subst hst
    refine w_pure ?_
    rintro ⟨hxl, i, rfl⟩
    have hl1 : (bv x.data).length = 256 := by rw [bv_len, hxl]
    have hl2 : x.cs.length = 257 := by rw [WrV.cs, List.length_cons, hl1]
    refine sw_region ?_
    refine r_alloc (by exact z147) (cs := zeroW) (by kernel_rfl) (by exact rfl) fun b5 => ?_
    refine r_store_all (cs := zeroW) (vs := x.cs) (by exact tz rfl) (by exact rfl) (by exact rfl) (by iterate 24 (first | exact .hd | apply Upd.tl | skip)) rfl hl2 (wrsV_oneC _) rfl ?_
    refine sl_nil ?_
    refine sp_asgU hrec rfl (.tl .hd) ?_
    refine sw_block ?_
    refine sw_seq ?_
    refine sw_region ?_
    refine r_fieldAddr (k := ?_)
    refine r_load_one (k := ?_)
    refine r_load_fr1 (k := ?_)
    refine r_eql (k := ?_)
    refine r_move (k := ?_)
    by_cases e : x.at' = n
    · refine r_re (t := 15) (v' := vb true) rfl (by rw [decide_eq_true e]) ?_
      refine gd_yes (k := ?_)
      refine r_load_fr1 (k := ?_)
      refine gd_yes (k := ?_)
      refine r_fieldAddr (k := ?_)
      refine gd_yes (k := ?_)
      refine r_load_agg (cs := x.cs) (off := 1) (vs := bv x.data) (by exact tz rfl) (by exact rfl) (by iterate 24 (first | exact .head _ | apply List.Mem.tail | skip)) (by rw [WrV.cs, List.drop_succ_cons, List.drop_zero]; exact List.take_of_length_le (Nat.le_of_eq hl1)) hl1 (by exact rfl) ?_
      refine gd_yes (k := ?_)
      refine r_yield (J := fun s => JU U (J s)) (s := s) (E := pElt) hY2 hg (hAx e) rfl rfl (el := x.data) (fun _ _ _ => ⟨hxl, rfl⟩) rfl ?_
      have es : stepL Y go n (s, false) x = (Y s x.data, !go (Y s x.data)) := if_pos e
      rw [es]
      cases hg' : go (Y s x.data)
      · refine gd_yes (k := ?_)
        refine r_not (k := ?_)
        refine rd_pick_t (k := ?_)
        refine sl_nil ?_
        refine sp_then ?_
        refine swd_t (h := ?_)
        refine sw_ret ?_
        refine sp_block_ret ?_
        exact sp_roundI_ret (J := fun s : σ × Bool => J s.1) (s' := (Y s x.data, true)) ht hrec rfl (.cons _ (List.Sublist.refl _)) (by simp)
      · refine gd_yes (k := ?_)
        refine r_not (k := ?_)
        refine rd_pick_t (k := ?_)
        refine sl_nil ?_
        refine sp_then ?_
        refine swd_f (h := ?_)
        refine sw_skip ?_
        refine sp_block ?_
        exact sp_roundI (J := fun s : σ × Bool => J s.1) (s' := (Y s x.data, false)) ht hrec rfl (.cons _ (List.Sublist.refl _)) (by simp)
    · refine r_re (t := 15) (v' := vb false) rfl (by rw [decide_eq_false e]) ?_
      refine gd_no (k := ?_)
      refine gd_no (k := ?_)
      refine gd_no (k := ?_)
      refine gd_no (k := ?_)
      refine gd_no (k := ?_)
      refine rd_pick_f (k := ?_)
      refine sl_nil ?_
      refine sp_then ?_
      refine swd_f (h := ?_)
      refine sw_skip ?_
      refine sp_block ?_
      have es : stepL Y go n (s, false) x = (s, false) := if_neg e
      rw [es]
      exact sp_roundI (J := fun s : σ × Bool => J s.1) (s' := (s, false)) ht hrec rfl (.cons _ (List.Sublist.refl _)) (by simp)
  · rintro ⟨s, st⟩ mk hs
    have hr : s = runs Y go s0 (lastsOf n d.cache.xs.reverse) := by
      rw [← runs_last, ← hs]
    refine ⟨fun hj => ?_, fun j hj => ?_⟩
    · refine sp_block ?_
      exact sp_inormM rfl rfl rfl ⟨hr, rfl, rfl⟩
    · have ej : j = .ret := by cases st <;> simp_all [jmpL]
      subst ej
      refine sw_ret ?_
      refine sp_block_ret ?_
      exact sp_iretM rfl rfl rfl ⟨hr, rfl, rfl⟩

theorem lasts_len {n : Int} : ∀ {M : List WrV}, (∀ x ∈ M, x.data.length = 256) → ∀ {p : List UInt8}, p ∈ lastsOf n M → p.length = 256
  | [], _, p, h => by cases h
  | x :: l, h0, p, h => by
    rw [lastsOf] at h
    split at h
    · cases h with
      | head => exact h0 _ (.head _)
      | tail _ h => exact lasts_len (fun y hy => h0 y (.tail _ hy)) h
    · exact lasts_len (fun y hy => h0 y (.tail _ hy)) h
/-- What Read tells of a place. -/
def DiskP.read (d : DiskP) (n : Nat) : List UInt8 × Int := match lastsOf n d.cache.reverse with
  | p :: _ => (p, 0)
  | [] => if hasN d.bad n then (List.replicate 256 0, 31) else (d.pages.getD n [], 0)
theorem c_vread (G : Res) (d : DiskV) (hd : d.ok) (ho : d.off = false) (n : Nat) (hlt : n < d.pages.xs.length) : Ctr Tryd.prog G 106 [d.v, vi (n : Int)] [] [d.rp, d.rc, d.rb] (ret1 (.tuple #[.agg (bv (d.pure.read n).1).toArray, vi (d.pure.read n).2])) := by
  have hn1 : d.pages.xs.length ≤ 64 := hd.f.n1
  have hpl : (pgsV d.pages.xs).length = d.pages.xs.length * 256 := pgsV_len hd.f
  refine Ctr.intro Tryd.func106 (by kernel_rfl) rfl Tryd.ntmps106 rfl rfl rfl fun w' X => ?_
  refine sw_seq ?_
  refine sw_region ?_
  refine r_box (cs := d.cs) (by exact rfl) rfl (by exact rfl) fun b2 => ?_
  refine r_alloc (by exact z37) (cs := bv (List.replicate 256 0)) (by kernel_rfl) (by exact rfl) fun b4 => ?_
  refine r_alloc (by exact z38) (cs := [vi 0]) rfl (by exact rfl) fun b5 => ?_
  refine sl_nil ?_
  refine sp_then ?_
  refine sw_seq ?_
  refine sw_seq ?_
  refine sw_region ?_
  refine r_load_all (k := ?_)
  refine r_move (k := ?_)
  refine r_call1 (c_vasked G d hd ho n (by omega) (by omega)) (by exact rfl) (by exact rfl) (by exact rfl) (PhAll.all (by repeat' (first | trivial | exact .head _ | apply And.intro | apply List.Mem.tail))) (by exact rfl) ?_
  refine r_assign (k := ?_)
  refine sl_nil ?_
  refine sp_then ?_
  refine sw_seq ?_
  refine sw_region ?_
  refine r_move (k := ?_)
  refine r_neq (k := ?_)
  refine sl_nil ?_
  refine sp_then ?_
  refine w_re (t := 12) (v' := vb false) rfl rfl ?_
  refine swd_f (h := ?_)
  refine sw_skip ?_
  refine sp_then ?_
  refine sw_seq ?_
  refine sw_seq ?_
  refine sw_region ?_
  refine r_load_all (k := ?_)
  refine r_move (k := ?_)
  refine r_callF (c_last G d n) (by exact rfl) (by exact rfl) (by exact rfl) (by simp) (by exact rfl) ?_
  rintro _ _ ⟨q, q', rfl, rfl⟩
  refine sl_nil ?_
  refine sp_then ?_
  refine sw_block ?_
  refine sw_range0 (ι := Unit) (ps := [18]) (Bp := []) (i_last G q q' d hd n) (fun s _ => [.box b5 [vi 0] 38, .box b4 (bv (s.getD (List.replicate 256 0))) 37, .box b2 d.cs 60]) (fun _ _ => [d.rp, d.rb]) (fun s : Option (List UInt8) => bif s.isSome then some .ret else none) (fun _ x => some x) (fun _ _ => True) none () rfl rfl rfl (adm_true _ _) rfl (by simp) (by simp) (fun _ _ => rfl) rfl (fun x vs V w h => by obtain ⟨_, rfl⟩ := h; rfl) ?_ ?_
  · rintro l mk rec w X U K s _ p vs hrec hj _ ht
    have hst : s = none := by cases s <;> simp_all
    subst hst
    refine w_pure ?_
    rintro ⟨hxl, rfl⟩
    have hl1 : (bv p).length = 256 := by rw [bv_len, hxl]
    refine sw_region ?_
    refine r_alloc (by exact z37) (cs := bv (List.replicate 256 0)) (by kernel_rfl) (by exact rfl) fun b7 => ?_
    refine r_store_all (cs := bv (List.replicate 256 0)) (vs := bv p) (by exact tz rfl) (by exact rfl) (by exact rfl) (by iterate 24 (first | exact .hd | apply Upd.tl | skip)) rfl hl1 (bv_one _) rfl ?_
    refine sl_nil ?_
    refine sp_asgU hrec rfl (.tl .hd) ?_
    refine sw_block ?_
    refine sw_seq ?_
    refine sw_region ?_
    refine r_load_all (cs := bv p) (by exact tz rfl) (by exact rfl) (by iterate 24 (first | exact .head _ | apply List.Mem.tail | skip)) hl1 (by exact rfl) ?_
    refine r_store_all (cs := bv (List.replicate 256 0)) (vs := bv p) (by exact tz rfl) (by exact rfl) (by exact rfl) (by iterate 24 (first | exact .hd | apply Upd.tl | skip)) rfl hl1 (bv_one _) rfl ?_
    refine r_store_all (k := ?_)
    refine sl_nil ?_
    refine sp_then ?_
    refine sw_ret ?_
    refine sp_block_ret ?_
    exact sp_round_ret (ι := Unit) (i' := ()) (s' := some p) ht hrec rfl (.cons _ (List.Sublist.refl _)) (by simp)
  · rintro s _ mk hs
    have key : ∀ L : List (List UInt8), runs (fun (_ : Option (List UInt8)) x => some x) (fun s => (bif s.isSome then some Code.ret else none).isNone) none L = L.head? := by
      intro L
      cases L with
      | nil => rfl
      | cons x l => rw [runs_stop rfl]; rfl
    rw [key] at hs
    refine ⟨fun hj => ?_, fun j hj => ?_⟩
    · have h0 : s = none := by
        cases s with
        | none => rfl
        | some p => simp at hj
      subst h0
      have hL : lastsOf n d.cache.xs.reverse = [] := List.head?_eq_none_iff.1 hs.symm
      have hrd : d.pure.read n = if hasN d.bad.xs n then (List.replicate 256 0, 31) else (d.pages.xs.getD n [], 0) := by
        unfold DiskP.read
        rw [show d.pure.cache = d.cache.xs from rfl, hL]; rfl
      refine sp_block ?_
      refine sp_then ?_
      refine sw_seq ?_
      refine sw_seq ?_
      refine sw_region ?_
      refine r_fieldAddr (k := ?_)
      refine r_load_one (k := ?_)
      refine r_move (k := ?_)
      refine r_call1 (c_contains G d hd n) (by exact rfl) (by exact rfl) (by exact rfl) (PhAll.all (by repeat' (first | trivial | exact .head _ | apply And.intro | apply List.Mem.tail))) (by exact rfl) ?_
      cases hc : hasN d.bad.xs n
      · rw [hc] at hrd
        have hg : d.pages.xs.getD n [] = d.pages.xs[n] := by simp [List.getD, hlt]
        have hl2 : (bv d.pages.xs[n]).length = 256 := pgsV_h hd.f _ (List.getElem_mem hlt)
        refine sl_nil ?_
        refine sp_then ?_
        refine swd_f (h := ?_)
        refine sw_skip ?_
        refine sp_then ?_
        refine sw_seq ?_
        refine sw_region ?_
        refine r_fieldAddr (k := ?_)
        refine r_load_one (k := ?_)
        refine r_move (k := ?_)
        refine r_idx (cs := pgsV d.pages.xs) (by exact tl rfl) (by exact rfl) (by exact rfl) (by omega) (by omega) (by iterate 24 (first | exact .head _ | apply List.Mem.tail | skip)) (by rw [hpl]; exact Nat.le_refl _) (by exact rfl) (by exact Int.toNat_natCast _) (by exact rfl) ?_
        refine r_load_mem (vs := bv d.pages.xs[n]) (by exact tz rfl) (by exact rfl) (by iterate 24 (first | exact .head _ | apply List.Mem.tail | skip)) (fm_at _ n (pgsV_h hd.f) hlt) rfl hl2 (by exact rfl) ?_
        refine r_store_all (cs := bv (List.replicate 256 0)) (vs := bv d.pages.xs[n]) (by exact tz rfl) (by exact rfl) (by exact rfl) (by iterate 24 (first | exact .hd | apply Upd.tl | skip)) rfl hl2 (bv_one _) rfl ?_
        refine r_store_all (k := ?_)
        refine sl_nil ?_
        refine sp_then ?_
        refine sw_ret ?_
        rw [hrd, if_neg (by decide), hg]
        refine sp_ret2 rfl rfl (.agg rfl (tz rfl) hl2 (.tail _ (.tail _ (.head _)))) (.one rfl (tz rfl) (.tail _ (.head _))) rfl rfl ⟨rfl, rfl, rfl⟩ (List.nil_sublist _) rfl (by simp)
      · rw [hc] at hrd
        refine sl_nil ?_
        refine sp_then ?_
        refine swd_t (h := ?_)
        refine sw_seq ?_
        refine sw_region ?_
        refine r_buildP (bv (List.replicate 256 0)) (parts := []) (by exact rfl) (by kernel_rfl) (by exact rfl) ?_
        refine r_store_all (cs := bv (List.replicate 256 0)) (vs := bv (List.replicate 256 0)) (by exact tz rfl) (by exact rfl) (by exact rfl) (by iterate 24 (first | exact .hd | apply Upd.tl | skip)) rfl rfl (bv_one _) rfl ?_
        refine r_store_all (k := ?_)
        refine sl_nil ?_
        refine sp_then ?_
        refine sw_ret ?_
        refine sp_then_ret ?_
        rw [hrd, if_pos rfl]
        refine sp_ret2 rfl rfl (.agg rfl (tz rfl) rfl (.tail _ (.tail _ (.head _)))) (.one rfl (tz rfl) (.tail _ (.head _))) rfl rfl ⟨rfl, rfl, rfl⟩ (List.nil_sublist _) rfl (by simp)
    · cases s with
      | none => simp at hj
      | some p =>
        have ej : j = .ret := by simpa using hj.symm
        subst ej
        have hrd : d.pure.read n = (p, 0) := by
          unfold DiskP.read
          rw [show d.pure.cache = d.cache.xs from rfl]
          cases hL : lastsOf (n : Int) d.cache.xs.reverse with
          | nil => rw [hL] at hs; simp at hs
          | cons x l => rw [hL] at hs; rw [show p = x by simpa using hs]
        have hpl' : (bv p).length = 256 := by rw [bv_len]; exact lasts_len (fun x hx => hd.f.cd x (List.mem_reverse.1 hx)) (List.mem_of_mem_head? hs.symm)
        refine sw_ret ?_
        refine sp_block_ret ?_
        refine sp_then_ret ?_
        rw [hrd]
        refine sp_ret2 rfl rfl (.agg rfl (tz rfl) hpl' (.tail _ (.tail _ (.head _)))) (.one rfl (tz rfl) (.tail _ (.head _))) rfl rfl ⟨rfl, rfl, rfl⟩ (List.nil_sublist _) rfl (by simp)
end Go.Proofs.YtjahiohlekdhoaaDoor

namespace Go.Proofs.YtjahiohlekdhoaaDoor
open Go
set_option maxHeartbeats 4000000
set_option maxRecDepth 4000
attribute [local irreducible] SW SL SP RA Then FQ IQ LoopQ RQ AQ NX CutQ Exit.noGoto

/-- A pair whose fuse is none, and whose power is on. -/
structure PairV where
  d0 : DiskV
  d1 : DiskV
def PairV.ds (p : PairV) : List Value := p.d0.cs ++ p.d1.cs
def PairV.cs (p : PairV) : List Value := p.ds ++ [vi (-1), vb false]
def PairV.v (p : PairV) : Value := .agg p.cs.toArray
def PairV.get (p : PairV) (k : Bool) : DiskV := bif k then p.d1 else p.d0
def PairV.set (p : PairV) (k : Bool) (x : DiskV) : PairV := bif k then ⟨p.d0, x⟩ else ⟨x, p.d1⟩
def ib (k : Bool) : Int := bif k then 1 else 0
def liveN (p : PairV) : UInt8 := (bif p.d0.off then 0 else 1) ||| (bif p.d1.off then 0 else 2)

theorem c_burn (G : Res) (p : PairV) : Ctr Tryd.prog G 116 [p.v] [] [] (ret1 (.tuple #[p.v, vb true])) := by
  refine Ctr.intro Tryd.func116 (by kernel_rfl) rfl Tryd.ntmps116 rfl rfl rfl fun w' X => ?_
  refine sw_seq ?_
  refine sw_region ?_
  refine r_box (cs := p.cs) (by exact rfl) rfl (by exact rfl) fun b1 => ?_
  refine r_alloc (by exact z63) (by exact rfl) (by exact rfl) fun b2 => ?_
  refine r_assign (k := ?_)
  refine sl_nil ?_
  refine sp_then ?_
  refine sw_seq ?_
  refine sw_block ?_
  refine sw_seq ?_
  refine sw_region ?_
  refine r_fieldAddr (k := ?_)
  refine r_load_one (k := ?_)
  refine r_assign (k := ?_)
  refine sl_nil ?_
  refine sp_then ?_
  refine swd_f (h := ?_)
  refine sw_seq ?_
  refine sw_region ?_
  refine r_fieldAddr (k := ?_)
  refine r_load_one (k := ?_)
  refine r_eql (k := ?_)
  refine r_assign (k := ?_)
  refine sl_nil ?_
  refine sp_then ?_
  refine w_re (t := 8) (v' := vb false) rfl rfl ?_
  refine swd_f (h := ?_)
  refine sw_seq ?_
  refine sw_region ?_
  refine r_fieldAddr (k := ?_)
  refine r_load_one (k := ?_)
  refine r_gtr (k := ?_)
  refine r_assign (k := ?_)
  refine sl_nil ?_
  refine sp_then ?_
  refine w_re (t := 14) (v' := vb false) rfl rfl ?_
  refine swd_f (h := ?_)
  refine sw_skip ?_
  refine sp_block ?_
  refine sp_then ?_
  refine sw_seq ?_
  refine sw_region ?_
  refine r_load_all (k := ?_)
  refine r_store_all (k := ?_)
  refine r_assign (k := ?_)
  refine sl_nil ?_
  refine sp_then ?_
  refine sw_ret ?_
  refine sp_ret2 rfl rfl (.agg rfl (tz rfl) rfl (.head _)) (.tmp rfl) rfl rfl ⟨rfl, rfl, rfl⟩ (by simp) rfl (by simp)

def liveAt (p : PairV) : Nat → UInt8
  | 0 => 0
  | 1 => bif p.d0.off then 0 else 1
  | _ => liveN p
theorem c_live (G : Res) (p : PairV) : Ctr Tryd.prog G 74 [p.v] [] [] (ret1 (v8 (liveN p))) := by
  refine Ctr.intro Tryd.func74 (by kernel_rfl) rfl Tryd.ntmps74 rfl rfl rfl fun w' X => ?_
  refine sw_seq ?_
  refine sw_region ?_
  refine r_box (k := fun bx => ?_)
  refine r_assign (k := ?_)
  refine sl_nil ?_
  refine sp_then ?_
  refine sw_seq ?_
  refine sw_seq ?_
  refine sw_region ?_
  refine r_fieldAddr (k := ?_)
  refine r_load_agg (k := ?_)
  refine r_move (k := ?_)
  refine sl_nil ?_
  refine sp_then ?_
  refine sw_block ?_
  refine sw_loop (ι := { i : Nat // i ≤ 2 }) (fun i => [(2, v8 (liveAt p i.1)), (6, .agg p.ds.toArray), (7, vi (i.1 : Int))]) (fun _ => [.box bx p.cs 63]) (fun _ => []) (fun _ => []) (fun i => 2 - i.1) ⟨0, by omega⟩ ?_ fun i => ?_
  · refine Ent.mk' (by repeat' (first | trivial | exact rfl | apply And.intro)) (by repeat' (first | trivial | exact .head _ | apply And.intro | apply List.Mem.tail))
  obtain ⟨i, hi⟩ := i
  dsimp only
  obtain rfl | rfl | rfl : i = 0 ∨ i = 1 ∨ i = 2 := by omega
  · refine sw_seq ?_
    refine sw_region ?_
    refine r_lss (k := ?_)
    refine sl_nil ?_
    refine sp_then ?_
    refine sw_seq ?_
    refine w_re (t := 8) (v' := vb true) rfl rfl ?_
    refine swd_t (h := ?_)
    refine sw_skip ?_
    refine sp_then ?_
    refine sw_seq ?_
    refine sw_block ?_
    refine sw_seq ?_
    refine sw_region ?_
    refine r_move (k := ?_)
    refine r_indexA (vs := p.d0.cs) (i := 0) (by exact ta rfl) (by exact tz rfl) (by exact rfl) (by exact rfl) (by decide) (by decide) rfl rfl rfl (by exact rfl) ?_
    refine r_alloc (by exact z60) (by exact rfl) (by exact rfl) fun b4 => ?_
    refine r_assign (k := ?_)
    refine r_store_all (k := ?_)
    refine sl_nil ?_
    refine sp_then ?_
    refine sw_seq ?_
    refine sw_region ?_
    refine r_fieldAddr (k := ?_)
    refine r_load_one (k := ?_)
    refine r_not (k := ?_)
    refine sl_nil ?_
    refine sp_then ?_
    cases ho : p.d0.off
    · refine w_re (t := 13) (v' := vb true) rfl rfl ?_
      refine swd_t (h := ?_)
      refine sw_region ?_
      refine r_move (k := ?_)
      refine r_move (k := ?_)
      refine r_bin (r := v8 1) (by exact rfl) (by exact rfl) (by exact rfl) (fun w => by rfl) ?_
      refine r_or8 (b := 1) (by exact rfl) (by exact rfl) (by exact rfl) ?_
      refine r_assign (k := ?_)
      refine sl_nil ?_
      refine sp_block ?_
      refine sp_then ?_
      refine sw_region ?_
      refine r_add64 (k := ?_)
      refine r_move (k := ?_)
      refine sl_nil ?_
      refine sp_drop rfl ?_
      refine sp_re (t := 2) (v' := v8 (liveAt p 1)) rfl (by simp [liveAt, ho]) ?_
      refine sp_loop (ι := { i : Nat // i ≤ 2 }) ⟨1, by omega⟩ ?_ ?_
      · dsimp only; omega
      · exact Ent.mk' (by repeat' (first | trivial | exact rfl | apply And.intro)) (by repeat' (first | trivial | exact .head _ | apply And.intro | apply List.Mem.tail))
    · refine w_re (t := 13) (v' := vb false) rfl rfl ?_
      refine swd_f (h := ?_)
      refine sw_skip ?_
      refine sp_block ?_
      refine sp_then ?_
      refine sw_region ?_
      refine r_add64 (k := ?_)
      refine r_move (k := ?_)
      refine sl_nil ?_
      refine sp_drop rfl ?_
      refine sp_re (t := 2) (v' := v8 (liveAt p 1)) rfl (by simp [liveAt, ho]) ?_
      refine sp_loop (ι := { i : Nat // i ≤ 2 }) ⟨1, by omega⟩ ?_ ?_
      · dsimp only; omega
      · exact Ent.mk' (by repeat' (first | trivial | exact rfl | apply And.intro)) (by repeat' (first | trivial | exact .head _ | apply And.intro | apply List.Mem.tail))
  · refine sw_seq ?_
    refine sw_region ?_
    refine r_lss (k := ?_)
    refine sl_nil ?_
    refine sp_then ?_
    refine sw_seq ?_
    refine w_re (t := 8) (v' := vb true) rfl rfl ?_
    refine swd_t (h := ?_)
    refine sw_skip ?_
    refine sp_then ?_
    refine sw_seq ?_
    refine sw_block ?_
    refine sw_seq ?_
    refine sw_region ?_
    refine r_move (k := ?_)
    refine r_indexA (vs := p.d1.cs) (i := 1) (by exact ta rfl) (by exact tz rfl) (by exact rfl) (by exact rfl) (by decide) (by decide) rfl rfl rfl (by exact rfl) ?_
    refine r_alloc (by exact z60) (by exact rfl) (by exact rfl) fun b4 => ?_
    refine r_assign (k := ?_)
    refine r_store_all (k := ?_)
    refine sl_nil ?_
    refine sp_then ?_
    refine sw_seq ?_
    refine sw_region ?_
    refine r_fieldAddr (k := ?_)
    refine r_load_one (k := ?_)
    refine r_not (k := ?_)
    refine sl_nil ?_
    refine sp_then ?_
    cases ho : p.d1.off
    · refine w_re (t := 13) (v' := vb true) rfl rfl ?_
      refine swd_t (h := ?_)
      refine sw_region ?_
      refine r_move (k := ?_)
      refine r_move (k := ?_)
      refine r_bin (r := v8 2) (by exact rfl) (by exact rfl) (by exact rfl) (fun w => by rfl) ?_
      cases h0 : p.d0.off
      · refine r_re (t := 14) (v' := v8 1) rfl (by simp [liveAt, h0]) ?_
        refine r_or8 (b := 2) (by exact rfl) (by exact rfl) (by exact rfl) ?_
        refine r_assign (k := ?_)
        refine sl_nil ?_
        refine sp_block ?_
        refine sp_then ?_
        refine sw_region ?_
        refine r_add64 (k := ?_)
        refine r_move (k := ?_)
        refine sl_nil ?_
        refine sp_drop rfl ?_
        refine sp_re (t := 2) (v' := v8 (liveAt p 2)) rfl (by simp [liveAt, liveN, ho, h0]) ?_
        refine sp_loop (ι := { i : Nat // i ≤ 2 }) ⟨2, by omega⟩ ?_ ?_
        · dsimp only; omega
        · exact Ent.mk' (by repeat' (first | trivial | exact rfl | apply And.intro)) (by repeat' (first | trivial | exact .head _ | apply And.intro | apply List.Mem.tail))
      · refine r_re (t := 14) (v' := v8 0) rfl (by simp [liveAt, h0]) ?_
        refine r_or8 (b := 2) (by exact rfl) (by exact rfl) (by exact rfl) ?_
        refine r_assign (k := ?_)
        refine sl_nil ?_
        refine sp_block ?_
        refine sp_then ?_
        refine sw_region ?_
        refine r_add64 (k := ?_)
        refine r_move (k := ?_)
        refine sl_nil ?_
        refine sp_drop rfl ?_
        refine sp_re (t := 2) (v' := v8 (liveAt p 2)) rfl (by simp [liveAt, liveN, ho, h0]) ?_
        refine sp_loop (ι := { i : Nat // i ≤ 2 }) ⟨2, by omega⟩ ?_ ?_
        · dsimp only; omega
        · exact Ent.mk' (by repeat' (first | trivial | exact rfl | apply And.intro)) (by repeat' (first | trivial | exact .head _ | apply And.intro | apply List.Mem.tail))
    · refine w_re (t := 13) (v' := vb false) rfl rfl ?_
      refine swd_f (h := ?_)
      refine sw_skip ?_
      refine sp_block ?_
      refine sp_then ?_
      refine sw_region ?_
      refine r_add64 (k := ?_)
      refine r_move (k := ?_)
      refine sl_nil ?_
      refine sp_drop rfl ?_
      refine sp_re (t := 2) (v' := v8 (liveAt p 2)) rfl (by simp [liveAt, liveN, ho]) ?_
      refine sp_loop (ι := { i : Nat // i ≤ 2 }) ⟨2, by omega⟩ ?_ ?_
      · dsimp only; omega
      · exact Ent.mk' (by repeat' (first | trivial | exact rfl | apply And.intro)) (by repeat' (first | trivial | exact .head _ | apply And.intro | apply List.Mem.tail))
  · refine sw_seq ?_
    refine sw_region ?_
    refine r_lss (k := ?_)
    refine sl_nil ?_
    refine sp_then ?_
    refine sw_seq ?_
    refine w_re (t := 8) (v' := vb false) rfl rfl ?_
    refine swd_f (h := ?_)
    refine sw_exit ?_
    refine sp_then_exit ?_
    refine sp_loop_exit ?_
    refine sp_block_exit ?_
    refine sp_then ?_
    refine sw_seq ?_
    refine sw_region ?_
    refine r_move (k := ?_)
    refine r_assign (k := ?_)
    refine sl_nil ?_
    refine sp_then ?_
    refine sw_ret ?_
    refine sp_retv rfl rfl (.tmp rfl) rfl rfl ⟨rfl, rfl, rfl⟩ (by simp) rfl (by simp)
end Go.Proofs.YtjahiohlekdhoaaDoor

namespace Go.Proofs.YtjahiohlekdhoaaDoor
open Go
set_option maxHeartbeats 4000000
set_option maxRecDepth 4000
attribute [local irreducible] SW SL SP RA Then FQ IQ LoopQ RQ AQ NX CutQ Exit.noGoto

/-- What a deed tells: a disk that changes no more, and no error. -/
def retD (d : DiskP) : PostC := retF fun v Φ' => ∃ x : DiskV, v = .tuple #[x.v, vi 0] ∧ x.ok ∧ x.pure = d ∧ Φ' = [x.rb, x.rc, x.rp]
/-- What is told is a pair with another disk. -/
def retP (p : PairV) (k : Bool) (d : DiskP) : PostC := retF fun v Φ' => ∃ x : DiskV, v = .tuple #[(p.set k x).v, vi 0] ∧ x.ok ∧ x.pure = d ∧ Φ' = [x.rb, x.rc, x.rp]

theorem c_does (G : Res) (p : PairV) (k : Bool) (f : FuncId) (caps : List Value) (Φd : List Res) (d' : DiskP) (hd : Ctr Tryd.prog G f ((p.get k).v :: caps) [] Φd (retD d')) : Ctr Tryd.prog G 101 [p.v, vi (ib k), .func (.func f) #[] caps.toArray] [] Φd (retP p k d') := by
  refine Ctr.intro Tryd.func101 (by kernel_rfl) rfl Tryd.ntmps101 rfl rfl rfl fun w' X => ?_
  refine sw_seq ?_
  refine sw_region ?_
  refine r_box (cs := p.cs) (by exact rfl) rfl (by exact rfl) fun b3 => ?_
  refine r_alloc (by exact z63) (by exact rfl) (by exact rfl) fun b6 => ?_
  refine r_assign (k := ?_)
  refine sl_nil ?_
  refine sp_then ?_
  refine sw_seq ?_
  refine sw_region ?_
  refine r_load_all (k := ?_)
  refine r_call1 (c_burn G p) (by exact rfl) (by exact rfl) (by exact rfl) (by simp) (by exact rfl) ?_
  refine r_move (k := ?_)
  refine r_ext (k := ?_)
  refine r_ext (k := ?_)
  refine r_store_all (k := ?_)
  refine r_assign (k := ?_)
  refine sl_nil ?_
  refine sp_then ?_
  refine sw_seq ?_
  refine sw_seq ?_
  refine sw_region ?_
  refine r_move (k := ?_)
  refine r_not (k := ?_)
  refine sl_nil ?_
  refine sp_then ?_
  refine swd_f (h := ?_)
  refine sw_skip ?_
  refine sp_then ?_
  refine sw_seq ?_
  refine sw_region ?_
  refine r_move (k := ?_)
  refine r_move (k := ?_)
  refine r_fieldAddr (k := ?_)
  cases k
  · refine r_idx_arr (i := 0) (m := 0) (by exact ta rfl) (by exact rfl) (by exact rfl) (by decide) (by decide) rfl (by exact rfl) ?_
    refine r_load_agg (vs := p.d0.cs) (by exact tz rfl) (by exact rfl) (by iterate 24 (first | exact .head _ | apply List.Mem.tail | skip)) rfl rfl (by exact rfl) ?_
    refine r_callF hd (by exact rfl) (by exact rfl) (by exact rfl) (by simp) (by exact rfl) ?_
    rintro _ _ ⟨x, rfl, hx, hxp, rfl⟩
    refine r_move (k := ?_)
    refine r_ext (k := ?_)
    refine r_ext (k := ?_)
    refine r_alloc (by exact z60) (by exact rfl) (by exact rfl) fun b9 => ?_
    refine r_store_all (k := ?_)
    refine r_assign (k := ?_)
    refine sl_nil ?_
    refine sp_then ?_
    refine sw_seq ?_
    refine sw_seq ?_
    refine sw_region ?_
    refine r_move (k := ?_)
    refine r_eql (k := ?_)
    refine sl_nil ?_
    refine sp_then ?_
    refine w_re (t := 29) (v' := vb true) rfl rfl ?_
    refine swd_t (h := ?_)
    refine sw_region ?_
    refine r_move (k := ?_)
    refine r_load_all (k := ?_)
    refine r_fieldAddr (k := ?_)
    refine r_idx_arr (i := 0) (m := 0) (by exact ta rfl) (by exact rfl) (by exact rfl) (by decide) (by decide) rfl (by exact rfl) ?_
    refine r_store (vs := x.cs) (cs' := (p.set false x).cs) (by exact tz rfl) (by exact rfl) (by exact rfl) (by iterate 24 (first | exact .hd | apply Upd.tl | skip)) rfl rfl rfl (Nat.le_of_ble_eq_true rfl) rfl ?_
    refine sl_nil ?_
    refine sp_then ?_
    refine sw_seq ?_
    refine sw_region ?_
    refine r_load_all (k := ?_)
    refine r_move (k := ?_)
    refine r_store_all (k := ?_)
    refine r_assign (k := ?_)
    refine sl_nil ?_
    refine sp_then ?_
    refine sw_ret ?_
    refine sp_ret2 rfl rfl (.agg rfl (tz rfl) rfl (.tail _ (.head _))) (.tmp rfl) rfl rfl ⟨rfl, x, rfl, hx, hxp, rfl⟩ (by simp) rfl (PhAll.all (by repeat' (first | trivial | exact .head _ | apply And.intro | apply List.Mem.tail)))
  · refine r_idx_arr (i := 1) (m := 1) (by exact ta rfl) (by exact rfl) (by exact rfl) (by decide) (by decide) rfl (by exact rfl) ?_
    refine r_load_agg (vs := p.d1.cs) (by exact tz rfl) (by exact rfl) (by iterate 24 (first | exact .head _ | apply List.Mem.tail | skip)) rfl rfl (by exact rfl) ?_
    refine r_callF hd (by exact rfl) (by exact rfl) (by exact rfl) (by simp) (by exact rfl) ?_
    rintro _ _ ⟨x, rfl, hx, hxp, rfl⟩
    refine r_move (k := ?_)
    refine r_ext (k := ?_)
    refine r_ext (k := ?_)
    refine r_alloc (by exact z60) (by exact rfl) (by exact rfl) fun b9 => ?_
    refine r_store_all (k := ?_)
    refine r_assign (k := ?_)
    refine sl_nil ?_
    refine sp_then ?_
    refine sw_seq ?_
    refine sw_seq ?_
    refine sw_region ?_
    refine r_move (k := ?_)
    refine r_eql (k := ?_)
    refine sl_nil ?_
    refine sp_then ?_
    refine w_re (t := 29) (v' := vb true) rfl rfl ?_
    refine swd_t (h := ?_)
    refine sw_region ?_
    refine r_move (k := ?_)
    refine r_load_all (k := ?_)
    refine r_fieldAddr (k := ?_)
    refine r_idx_arr (i := 1) (m := 1) (by exact ta rfl) (by exact rfl) (by exact rfl) (by decide) (by decide) rfl (by exact rfl) ?_
    refine r_store (vs := x.cs) (cs' := (p.set true x).cs) (by exact tz rfl) (by exact rfl) (by exact rfl) (by iterate 24 (first | exact .hd | apply Upd.tl | skip)) rfl rfl rfl (Nat.le_of_ble_eq_true rfl) rfl ?_
    refine sl_nil ?_
    refine sp_then ?_
    refine sw_seq ?_
    refine sw_region ?_
    refine r_load_all (k := ?_)
    refine r_move (k := ?_)
    refine r_store_all (k := ?_)
    refine r_assign (k := ?_)
    refine sl_nil ?_
    refine sp_then ?_
    refine sw_ret ?_
    refine sp_ret2 rfl rfl (.agg rfl (tz rfl) rfl (.tail _ (.head _))) (.tmp rfl) rfl rfl ⟨rfl, x, rfl, hx, hxp, rfl⟩ (by simp) rfl (PhAll.all (by repeat' (first | trivial | exact .head _ | apply And.intro | apply List.Mem.tail)))

theorem c_mput1 (G : Res) (d : DiskV) (hd : d.ok) (ho : d.off = false) (n : Int) (p : List UInt8) (h0 : 0 ≤ n) (h1 : n < d.pages.xs.length) (hp : p.length = 256) (hc : d.cache.xs.length < 1000) (q q' : Nat) : Ctr Tryd.prog G 102 [d.v, .pointer (some ⟨q, 0, none⟩), .pointer (some ⟨q', 0, none⟩)] [] [Res.mem (some ⟨q, 0, none⟩) [vi n], Res.mem (some ⟨q', 0, none⟩) (bv p), d.rp, d.rc, d.rb] (retD (d.pure.write n p)) := by
  have hl : (bv p).length = 256 := by rw [bv_len, hp]
  refine Ctr.intro Tryd.func102 (by kernel_rfl) rfl Tryd.ntmps102 rfl rfl rfl fun w' X => ?_
  refine sw_seq ?_
  refine sw_region ?_
  refine r_box (cs := d.cs) (by exact rfl) rfl (by exact rfl) fun b3 => ?_
  refine r_alloc (by exact z60) (by exact rfl) (by exact rfl) fun b4 => ?_
  refine r_assign (k := ?_)
  refine sl_nil ?_
  refine sp_then ?_
  refine sw_seq ?_
  refine sw_region ?_
  refine r_load_all (k := ?_)
  refine r_load_fr1 (k := ?_)
  refine r_load_fr (vs := bv p) (cs := bv p) (by exact tz rfl) (by exact rfl) (by iterate 24 (first | exact .head _ | apply List.Mem.tail | skip)) (by rw [part', List.drop_zero]; exact List.take_of_length_le (Nat.le_of_eq hl)) rfl hl (by exact rfl) ?_
  refine r_callF (c_vwrite G d hd ho n p h0 h1 hp hc) (by exact rfl) (by exact rfl) (by exact rfl) (PhAll.all (by repeat' (first | trivial | exact .head _ | apply And.intro | apply List.Mem.tail))) (by exact rfl) ?_
  rintro _ _ ⟨x, rfl, hx, hxp, rfl⟩
  refine r_ext (k := ?_)
  refine r_ext (k := ?_)
  refine r_store_all (k := ?_)
  refine r_assign (k := ?_)
  refine sl_nil ?_
  refine sp_then ?_
  refine sw_ret ?_
  refine sp_ret2 rfl rfl (.agg rfl (tz rfl) rfl (.head _)) (.tmp rfl) rfl rfl ⟨rfl, x, rfl, hx, hxp, rfl⟩ (by simp) rfl (PhAll.all (by repeat' (first | trivial | exact .head _ | apply And.intro | apply List.Mem.tail)))

theorem c_mput (G : Res) (P : PairV) (k : Bool) (hd : (P.get k).ok) (ho : (P.get k).off = false) (n : Int) (p : List UInt8) (h0 : 0 ≤ n) (h1 : n < (P.get k).pages.xs.length) (hp : p.length = 256) (hc : (P.get k).cache.xs.length < 1000) : Ctr Tryd.prog G 76 [P.v, vi (ib k), vi n, .agg (bv p).toArray] [] [(P.get k).rp, (P.get k).rc, (P.get k).rb] (retP P k ((P.get k).pure.write n p)) := by
  have hk : 0 ≤ ib k ∧ ib k ≤ 1 := by cases k <;> decide
  refine Ctr.intro Tryd.func76 (by kernel_rfl) rfl Tryd.ntmps76 rfl rfl rfl fun w' X => ?_
  refine sw_seq ?_
  refine sw_region ?_
  refine r_box (cs := P.cs) (by exact rfl) rfl (by exact rfl) fun b4 => ?_
  refine r_box (cs := [vi n]) (by exact rfl) rfl (by exact rfl) fun b6 => ?_
  refine r_box (cs := bv p) (by exact rfl) rfl (by exact rfl) fun b7 => ?_
  refine o_freeze ?_
  refine o_freeze ?_
  refine r_alloc (by exact z63) (by exact rfl) (by exact rfl) fun b8 => ?_
  refine r_assign (k := ?_)
  refine sl_nil ?_
  refine sp_then ?_
  refine sw_seq ?_
  refine sw_seq ?_
  refine sw_region ?_
  refine r_move (k := ?_)
  refine r_lss (k := ?_)
  refine r_move (k := ?_)
  refine r_re (t := 12) (v' := vb false) rfl (by rw [decide_eq_false (show ¬ ib k < 0 by omega)]) ?_
  refine gd_yes (k := ?_)
  refine r_move (k := ?_)
  refine gd_yes (k := ?_)
  refine r_gtr (k := ?_)
  refine rd_pick_f (k := ?_)
  refine sl_nil ?_
  refine sp_then ?_
  refine w_re (t := 15) (v' := vb false) rfl (by rw [decide_eq_false (show ¬ 1 < ib k by omega)]) ?_
  refine swd_f (h := ?_)
  refine sw_skip ?_
  refine sp_then ?_
  refine sw_seq ?_
  refine sw_region ?_
  refine r_load_all (k := ?_)
  refine r_move (k := ?_)
  refine r_clos (k := ?_)
  refine r_callF (c_does G P k _ [.pointer (some ⟨b6, 0, none⟩), .pointer (some ⟨b7, 0, none⟩)] _ _ (c_mput1 G (P.get k) hd ho n p h0 h1 hp hc b6 b7)) (by exact rfl) (by exact rfl) (by exact rfl) (PhAll.all (by repeat' (first | trivial | exact .head _ | apply And.intro | apply List.Mem.tail))) (by exact rfl) ?_
  rintro _ _ ⟨x, rfl, hx, hxp, rfl⟩
  refine r_ext (k := ?_)
  refine r_ext (k := ?_)
  refine r_store_all (k := ?_)
  refine r_assign (k := ?_)
  refine sl_nil ?_
  refine sp_then ?_
  refine sw_ret ?_
  refine sp_ret2 rfl rfl (.agg rfl (tz rfl) rfl (.head _)) (.tmp rfl) rfl rfl ⟨rfl, x, rfl, hx, hxp, rfl⟩ (by simp) rfl (PhAll.all (by repeat' (first | trivial | exact .head _ | apply And.intro | apply List.Mem.tail)))
end Go.Proofs.YtjahiohlekdhoaaDoor

namespace Go.Proofs.YtjahiohlekdhoaaDoor
open Go
set_option maxHeartbeats 4000000
set_option maxRecDepth 4000
attribute [local irreducible] SW SL SP RA Then FQ IQ LoopQ RQ AQ NX CutQ Exit.noGoto

def DiskP.fresh (n : Nat) : DiskP := ⟨List.replicate n (List.replicate 256 0), [], [], false⟩
theorem fresh_fine {n : Nat} (h0 : 32 ≤ n) (h1 : n ≤ 64) : (DiskP.fresh n).fine :=
  ⟨by simpa [DiskP.fresh] using h0, by simpa [DiskP.fresh] using h1, by simp [DiskP.fresh], fun x hx => by rw [(List.mem_replicate.1 hx).2]; simp, fun x hx => (by cases hx), fun x hx => (by cases hx), .inl rfl, fun _ => rfl⟩
theorem pgsV_zero (n : Nat) : pgsV (List.replicate n (List.replicate 256 0)) = List.replicate (n * 256) (Value.int .u8 0) := by
  induction n with
  | zero => rfl
  | succ n ih =>
    rw [List.replicate_succ, pgsV, List.flatMap_cons]
    show bv _ ++ pgsV _ = _
    rw [ih, Nat.add_mul, Nat.one_mul, Nat.add_comm (n * 256), ← List.replicate_append_replicate]
    congr 1

theorem c_r3new (G : Res) (n : Nat) (h0 : 32 ≤ n) (h1 : n ≤ 64) : Ctr Tryd.prog G 96 [vi (n : Int)] [] [] (retD (DiskP.fresh n)) := by
  refine Ctr.intro Tryd.func96 (by kernel_rfl) rfl Tryd.ntmps96 rfl rfl rfl fun w' X => ?_
  refine sw_seq ?_
  refine sw_region ?_
  refine r_alloc (by exact z60) (by exact rfl) (by exact rfl) fun b2 => ?_
  refine r_assign (k := ?_)
  refine sl_nil ?_
  refine sp_then ?_
  refine sw_seq ?_
  refine sw_seq ?_
  refine sw_region ?_
  refine r_move (k := ?_)
  refine r_lss (k := ?_)
  refine r_move (k := ?_)
  refine r_re (t := 6) (v' := vb false) rfl (by rw [decide_eq_false (show ¬ (n : Int) < 32 by omega)]) ?_
  refine gd_yes (k := ?_)
  refine r_move (k := ?_)
  refine gd_yes (k := ?_)
  refine r_gtr (k := ?_)
  refine rd_pick_f (k := ?_)
  refine sl_nil ?_
  refine sp_then ?_
  refine w_re (t := 9) (v' := vb false) rfl (by rw [decide_eq_false (show ¬ (256 : Int) < (n : Int) by omega)]) ?_
  refine swd_f (h := ?_)
  refine sw_skip ?_
  refine sp_then ?_
  refine sw_seq ?_
  refine sw_region ?_
  refine r_move (k := ?_)
  refine r_make (z1 := .int .u8 0) (by exact tl rfl) (by exact z37) (by kernel_rfl) (by exact rfl) rfl (by omega) (by omega) (by omega) (by exact rfl) fun b => ?_
  refine o_row fun ba cap e1 q1 q2 _ => ?_
  cases e1
  rw [← pgsV_zero]
  refine f_have (φ := Res.mem none (wrsV [])) (fun V w _ i v hv => by simp [wrsV] at hv) ?_
  refine f_have (φ := Res.mem none (isV [])) (fun V w _ i v hv => by simp [isV] at hv) ?_
  refine r_buildP [.slice (some ⟨b, 0, none⟩) n n, .slice none 0 0, .slice none 0 0, vb false] (parts := [(0, .tmp 12)]) (by exact rfl) (by kernel_rfl) (by exact rfl) ?_
  refine r_store_all (k := ?_)
  refine r_assign (k := ?_)
  refine sl_nil ?_
  refine sp_then ?_
  refine sw_ret ?_
  have hl : (List.replicate n (List.replicate 256 (0 : UInt8))).length = n := by simp
  refine sp_ret2 rfl rfl (.agg rfl (tz rfl) rfl (.head _)) (.tmp rfl) rfl rfl ⟨rfl, ⟨⟨some ⟨b, 0, none⟩, n, List.replicate n (List.replicate 256 0)⟩, ⟨none, 0, []⟩, ⟨none, 0, []⟩, false⟩, by simp [DiskV.v, DiskV.cs, Sl.v], ⟨⟨by rw [hl]; exact q1, q2⟩, ⟨Nat.le_refl _, Nat.zero_le _⟩, ⟨Nat.le_refl _, Nat.zero_le _⟩, fresh_fine h0 h1⟩, rfl, rfl⟩ (by simp) rfl (PhAll.all (by repeat' (first | trivial | exact .head _ | apply And.intro | apply List.Mem.tail)))

/-- What is told is a pair that changes no more. -/
def PairV.ress (p : PairV) : List Res := [p.d0.rp, p.d0.rc, p.d0.rb, p.d1.rp, p.d1.rc, p.d1.rb]
theorem c_make (G : Res) (n : Nat) (h0 : 32 ≤ n) (h1 : n ≤ 64) : Ctr Tryd.prog G 68 [vi (n : Int)] [] [] (retF fun v Φ' => ∃ p : PairV, v = .tuple #[p.v, vi 0] ∧ (p.d0.ok ∧ p.d1.ok) ∧ p.d0.pure = DiskP.fresh n ∧ p.d1.pure = DiskP.fresh n ∧ Φ' = p.ress) := by
  refine Ctr.intro Tryd.func68 (by kernel_rfl) rfl Tryd.ntmps68 rfl rfl rfl fun w' X => ?_
  refine sw_seq ?_
  refine sw_region ?_
  refine r_alloc (by exact z63) (by exact rfl) (by exact rfl) fun b2 => ?_
  refine r_assign (k := ?_)
  refine sl_nil ?_
  refine sp_then ?_
  refine sw_seq ?_
  refine sw_region ?_
  refine r_move (k := ?_)
  refine r_callF (c_r3new G n h0 h1) (by exact rfl) (by exact rfl) (by exact rfl) (by simp) (by exact rfl) ?_
  rintro _ _ ⟨x, rfl, hx, hxp, rfl⟩
  refine r_move (k := ?_)
  refine r_ext (k := ?_)
  refine r_ext (k := ?_)
  refine r_alloc (by exact z60) (by exact rfl) (by exact rfl) fun b4 => ?_
  refine r_store_all (k := ?_)
  refine r_assign (k := ?_)
  refine sl_nil ?_
  refine sp_then ?_
  refine sw_seq ?_
  refine sw_seq ?_
  refine sw_region ?_
  refine r_move (k := ?_)
  refine r_neq (k := ?_)
  refine sl_nil ?_
  refine sp_then ?_
  refine w_re (t := 14) (v' := vb false) rfl rfl ?_
  refine swd_f (h := ?_)
  refine sw_skip ?_
  refine sp_then ?_
  refine sw_seq ?_
  refine sw_region ?_
  refine r_move (k := ?_)
  refine r_callF (c_r3new G n h0 h1) (by exact rfl) (by exact rfl) (by exact rfl) (by simp) (by exact rfl) ?_
  rintro _ _ ⟨y, rfl, hy, hyp, rfl⟩
  refine r_move (k := ?_)
  refine r_ext (k := ?_)
  refine r_ext (k := ?_)
  refine r_alloc (by exact z60) (by exact rfl) (by exact rfl) fun b6 => ?_
  refine r_store_all (k := ?_)
  refine r_assign (k := ?_)
  refine sl_nil ?_
  refine sp_then ?_
  refine sw_seq ?_
  refine sw_region ?_
  refine r_load_all (k := ?_)
  refine r_load_all (k := ?_)
  refine r_buildP (x.cs ++ y.cs) (parts := [(0, .tmp 22), (1, .tmp 23)]) (by exact rfl) (by kernel_rfl) (by exact rfl) ?_
  refine r_buildP (PairV.cs ⟨x, y⟩) (parts := [(0, .tmp 24), (1, .const (.int .i64 (-1)))]) (by exact rfl) (by kernel_rfl) (by exact rfl) ?_
  refine r_store_all (k := ?_)
  refine r_assign (k := ?_)
  refine sl_nil ?_
  refine sp_then ?_
  refine sw_ret ?_
  refine sp_ret2 rfl rfl (.agg rfl (tz rfl) rfl (.tail _ (.tail _ (.head _)))) (.tmp rfl) rfl rfl ⟨rfl, ⟨x, y⟩, rfl, ⟨hx, hy⟩, hxp, hyp, rfl⟩ (by simp) rfl (PhAll.all (by repeat' (first | trivial | exact .head _ | apply And.intro | apply List.Mem.tail)))
theorem c_pair (G : Res) (n : Nat) (h0 : 32 ≤ n) (h1 : n ≤ 64) : Ctr Tryd.prog G 31 [vi (n : Int)] [] [] (retF fun v Φ' => ∃ p : PairV, v = p.v ∧ (p.d0.ok ∧ p.d1.ok) ∧ p.d0.pure = DiskP.fresh n ∧ p.d1.pure = DiskP.fresh n ∧ Φ' = p.ress) := by
  refine Ctr.intro Tryd.func31 (by kernel_rfl) rfl Tryd.ntmps31 rfl rfl rfl fun w' X => ?_
  refine sw_seq ?_
  refine sw_region ?_
  refine r_alloc (by exact z63) (by exact rfl) (by exact rfl) fun b2 => ?_
  refine sl_nil ?_
  refine sp_then ?_
  refine sw_seq ?_
  refine sw_region ?_
  refine r_move (k := ?_)
  refine r_callF (c_make G n h0 h1) (by exact rfl) (by exact rfl) (by exact rfl) (by simp) (by exact rfl) ?_
  rintro _ _ ⟨p, rfl, hp, h2, h3, rfl⟩
  refine r_move (k := ?_)
  refine r_ext (k := ?_)
  refine r_ext (k := ?_)
  refine r_alloc (by exact z63) (by exact rfl) (by exact rfl) fun b3 => ?_
  refine r_store_all (k := ?_)
  refine r_assign (k := ?_)
  refine sl_nil ?_
  refine sp_then ?_
  refine sw_seq ?_
  refine sw_region ?_
  refine r_load_all (k := ?_)
  refine r_store_all (k := ?_)
  refine sl_nil ?_
  refine sp_then ?_
  refine sw_ret ?_
  refine sp_retv rfl rfl (.agg rfl (tz rfl) rfl (.tail _ (.head _))) rfl rfl ⟨rfl, p, rfl, hp, h2, h3, rfl⟩ (by simp) rfl (PhAll.all (by repeat' (first | trivial | exact .head _ | apply And.intro | apply List.Mem.tail)))
end Go.Proofs.YtjahiohlekdhoaaDoor

namespace Go.Proofs.YtjahiohlekdhoaaDoor
open Go
set_option maxHeartbeats 4000000
set_option maxRecDepth 4000
attribute [local irreducible] SW SL SP RA Then FQ IQ LoopQ RQ AQ NX CutQ Exit.noGoto

def plElt (x : Nat × Nat) (vs : List Value) : Res := Res.pure ((x.1 < 2 ∧ x.2 < 4) ∧ vs = [.agg [vi (x.1 : Int), vi (x.2 : Int)].toArray])
def placesL : List (Nat × Nat) := [(0, 0), (1, 0), (0, 1), (1, 1), (0, 2), (1, 2), (0, 3), (1, 3)]
theorem places_drop (k i : Nat) (hk : k < 4) (hi : i < 2) : placesL.drop (2 * k + i) = (i, k) :: placesL.drop (2 * k + (i + 1)) := by
  obtain rfl | rfl | rfl | rfl : k = 0 ∨ k = 1 ∨ k = 2 ∨ k = 3 := by omega
  all_goals
    obtain rfl | rfl : i = 0 ∨ i = 1 := by omega
    all_goals rfl
theorem c_places (G : Res) : Ctr Tryd.prog G 73 [] [] [] (ret1 (.func (.func 100) #[] #[])) := by
  refine Ctr.intro Tryd.func73 (by kernel_rfl) rfl Tryd.ntmps73 rfl rfl rfl fun w' X => ?_
  refine sw_seq ?_
  refine sw_region ?_
  refine r_assign (k := ?_)
  refine sl_nil ?_
  refine sp_then ?_
  refine sw_seq ?_
  refine sw_region ?_
  refine r_assign (k := ?_)
  refine sl_nil ?_
  refine sp_then ?_
  refine sw_ret ?_
  refine sp_retv rfl rfl (.tmp rfl) rfl rfl ⟨rfl, rfl, rfl⟩ (by simp) rfl (by simp)
theorem i_places (G : Res) : ICtr Tryd.prog G 100 [] [] [] plElt placesL := by
  refine ICtr.intro Tryd.func100 (by kernel_rfl) rfl Tryd.ntmps100 rfl rfl (fun _ => rfl) fun σ J Y go A l s0 w' X M hgo hA hY => ?_
  refine sw_seq ?_
  refine sw_region ?_
  refine r_move (k := ?_)
  refine sl_nil ?_
  refine sp_then ?_
  refine sw_block ?_
  refine sw_loop (ι := { p : Nat × σ // p.1 ≤ 4 ∧ At Y go A s0 placesL p.2 (placesL.drop (2 * p.1)) }) (fun p => [(0, yv l), (4, vi (p.1.1 : Int))]) (fun _ => []) (fun _ => []) (fun p => [J p.1.2]) (fun p => 4 - p.1.1) ⟨(0, s0), by dsimp only; omega, At.start hgo hA⟩ ?_ fun p => ?_
  · exact Ent.mk' (by repeat' (first | trivial | exact rfl | apply And.intro)) (by repeat' (first | trivial | exact .head _ | apply And.intro | apply List.Mem.tail))
  obtain ⟨⟨k, st⟩, hk, hr⟩ := p
  dsimp only at hk hr ⊢
  refine sw_seq ?_
  refine sw_region ?_
  refine r_lss (k := ?_)
  refine sl_nil ?_
  refine sp_then ?_
  refine sw_seq ?_
  refine sw_cond rfl (fun h => ?_) (fun h => ?_)
  · have h := of_decide_eq_true h
    have hk' : k < 4 := by omega
    refine sw_skip ?_
    refine sp_then ?_
    refine sw_seq ?_
    refine sw_block ?_
    refine sw_seq ?_
    refine sw_region ?_
    refine r_move (k := ?_)
    refine r_assign (k := ?_)
    refine sl_nil ?_
    refine sp_then ?_
    refine sw_seq ?_
    refine sw_region ?_
    refine r_move (k := ?_)
    refine sl_nil ?_
    refine sp_then ?_
    refine sw_block ?_
    refine sw_loop (ι := { q : Nat × σ // q.1 ≤ 2 ∧ At Y go A s0 placesL q.2 (placesL.drop (2 * k + q.1)) }) (fun q => [(0, yv l), (2, vi (k : Int)), (4, vi (k : Int)), (7, vi (q.1.1 : Int))]) (fun _ => []) (fun _ => []) (fun q => [J q.1.2]) (fun q => 2 - q.1.1) ⟨(0, st), by dsimp only; omega, hr⟩ ?_ fun q => ?_
    · exact Ent.mk' (by repeat' (first | trivial | exact rfl | apply And.intro)) (by repeat' (first | trivial | exact .head _ | apply And.intro | apply List.Mem.tail))
    obtain ⟨⟨i, st⟩, hi, hr⟩ := q
    dsimp only at hi hr ⊢
    refine sw_seq ?_
    refine sw_region ?_
    refine r_lss (k := ?_)
    refine sl_nil ?_
    refine sp_then ?_
    refine sw_seq ?_
    refine sw_cond rfl (fun h => ?_) (fun h => ?_)
    · have h := of_decide_eq_true h
      have hi' : i < 2 := by omega
      have hr := hr.of (places_drop k i hk' hi')
      refine sw_skip ?_
      refine sp_then ?_
      refine sw_seq ?_
      refine sw_block ?_
      refine sw_seq ?_
      refine sw_region ?_
      refine r_move (k := ?_)
      refine r_assign (k := ?_)
      refine sl_nil ?_
      refine sp_then ?_
      refine sw_seq ?_
      refine sw_region ?_
      refine r_move (k := ?_)
      refine r_move (k := ?_)
      refine r_move (k := ?_)
      refine r_buildP [vi (i : Int), vi (k : Int)] (parts := [(0, .tmp 11), (1, .tmp 12)]) (by exact rfl) (by kernel_rfl) (by exact rfl) ?_
      refine r_yield hY hr.go' hr.give rfl rfl (el := (i, k)) (fun _ _ _ => ⟨⟨hi', hk'⟩, rfl⟩) rfl ?_
      refine r_not (k := ?_)
      refine sl_nil ?_
      refine sp_then ?_
      cases hg : go (Y st (i, k))
      · refine swd_t (h := ?_)
        refine sw_ret ?_
        refine sp_block_ret ?_
        refine sp_then_ret ?_
        refine sp_loop_ret ?_
        refine sp_block_ret ?_
        refine sp_block_ret ?_
        refine sp_then_ret ?_
        refine sp_loop_ret ?_
        refine sp_block_ret ?_
        refine sp_iret rfl rfl rfl ⟨hr.stop hg, rfl, rfl⟩ (by simp) rfl (by simp) rfl
      · refine swd_f (h := ?_)
        refine sw_skip ?_
        refine sp_block ?_
        refine sp_then ?_
        refine sw_region ?_
        refine r_add64 (k := ?_)
        refine r_move (k := ?_)
        refine sl_nil ?_
        refine sp_loop (ι := { q : Nat × σ // q.1 ≤ 2 ∧ At Y go A s0 placesL q.2 (placesL.drop (2 * k + q.1)) }) ⟨(i + 1, Y st (i, k)), by dsimp only; omega, hr.next hg⟩ ?_ ?_
        · dsimp only; omega
        · exact Ent.mk' (by repeat' (first | trivial | exact rfl | apply And.intro)) (by repeat' (first | trivial | exact .head _ | apply And.intro | apply List.Mem.tail))
    · have h := of_decide_eq_false h
      obtain rfl : i = 2 := by omega
      refine sw_exit ?_
      refine sp_then_exit ?_
      refine sp_loop_exit ?_
      refine sp_block_exit ?_
      refine sp_block ?_
      refine sp_then ?_
      refine sw_region ?_
      refine r_add64 (k := ?_)
      refine r_move (k := ?_)
      refine sl_nil ?_
      refine sp_loop (ι := { p : Nat × σ // p.1 ≤ 4 ∧ At Y go A s0 placesL p.2 (placesL.drop (2 * p.1)) }) ⟨(k + 1, st), by dsimp only; omega, hr⟩ ?_ ?_
      · dsimp only; omega
      · exact Ent.mk' (by repeat' (first | trivial | exact rfl | apply And.intro)) (by repeat' (first | trivial | exact .head _ | apply And.intro | apply List.Mem.tail))
  · have h := of_decide_eq_false h
    obtain rfl : k = 4 := by omega
    refine sw_exit ?_
    refine sp_then_exit ?_
    refine sp_loop_exit ?_
    refine sp_block_exit ?_
    refine sp_inorm rfl rfl rfl ⟨hr.done, rfl, rfl⟩ (by simp) rfl (by simp) rfl

/-- Whether an anchor has a disk in its Live. -/
def hasD (live : UInt8) (k : Bool) : Bool := bif k then decide ((live >>> 1) &&& 1 = 1) else decide (live &&& 1 = 1)
end Go.Proofs.YtjahiohlekdhoaaDoor

namespace Go.Proofs.YtjahiohlekdhoaaDoor
open Go
set_option maxHeartbeats 4000000
set_option maxRecDepth 4000
attribute [local irreducible] SW SL SP RA Then FQ IQ LoopQ RQ AQ NX CutQ Exit.noGoto

theorem beq_iff_dec {α : Type} [BEq α] [LawfulBEq α] (x y : α) : (x == y) = true ↔ x = y := beq_iff_eq
theorem alikeV_iff (a b : MkV) : alikeV a b = true ↔ a.on = b.on ∧ a.disk = b.disk ∧ a.since = b.since ∧ a.key.xs = b.key.xs := by
  simp only [alikeV, Bool.and_eq_true, decide_eq_true_eq, beq_iff_eq, Int.ofNat_inj, UInt8.toNat_inj, UInt32.toNat_inj]
theorem sameV_iff (a b : AncV) : sameV a b = true ↔ a.pure = b.pure := by
  simp only [sameV, Bool.and_eq_true, decide_eq_true_eq, Int.ofNat_inj, UInt8.toNat_inj, UInt32.toNat_inj, UInt16.toNat_inj, alikeV_iff, AncV.pure, AncP.mk.injEq]

theorem c_decode_zero : Ctr Tryd.prog GW 16 [.agg (bv (zeros 256)).toArray] [] [] (retF fun v Φ' => ∃ a : AncV, v = .tuple #[a.v, vi 50] ∧ a.mark.key.ok ∧ a.pure = AncP.zero ∧ Φ' = [a.mark.key.res]) := by
  have h := c_decode 0 (zeros 255) (by simp [zeros])
  rwa [show (0 :: zeros 255 : List UInt8) = zeros 256 from rfl, decV_zero] at h
theorem one_cons : (65 :: oneA.page.tail : List UInt8) = oneA.page := by kernel_rfl
theorem c_decode_one : Ctr Tryd.prog GW 16 [.agg (bv oneA.page).toArray] [] [] (retF fun v Φ' => ∃ a : AncV, v = .tuple #[a.v, vi 0] ∧ a.mark.key.ok ∧ a.pure = oneA.pure ∧ Φ' = [a.mark.key.res]) := by
  have h := c_decode 65 oneA.page.tail (by rw [one_cons]; exact page_len _)
  rwa [one_cons, decV_one] at h
theorem c_encode_one : Ctr Tryd.prog GW 14 [oneA.v] [] [BS.nil.res] (ret1 (.tuple #[.agg (bv oneA.page).toArray, vi 0])) := by
  have h := c_encode oneA ⟨Nat.le_refl _, Nat.zero_le _⟩
  rwa [encV_one] at h
theorem one_right : oneA.right = true := by kernel_rfl
theorem zero_right : zeroA.right = false := by kernel_rfl

theorem c_wakes : Ctr Tryd.prog GW 13 [] [] [] (ret1 (vb true)) := by
  refine Ctr.intro Tryd.func13 (by kernel_rfl) rfl Tryd.ntmps13 rfl rfl rfl fun w X => ?_
  refine sw_seq ?_
  refine sw_region ?_
  refine r_assign (k := ?_)
  refine sl_nil ?_
  refine sp_then ?_
  refine sw_seq ?_
  refine sw_region ?_
  refine r_buildP (bv (zeros 256)) (parts := []) (by exact rfl) (by kernel_rfl) (by exact rfl) ?_
  skip
  refine r_callF c_decode_zero (by exact rfl) (by exact rfl) (by exact rfl) (by simp) (by exact rfl) ?_
  rintro _ _ ⟨a1, rfl, hk1, hp1, rfl⟩
  refine r_move (k := ?_)
  refine r_ext (k := ?_)
  refine r_ext (k := ?_)
  refine r_alloc (by exact z32) (cs := zeroA.cs) (by kernel_rfl) (by exact rfl) fun b1 => ?_
  refine r_store_all (cs := zeroA.cs) (vs := a1.cs) (by exact tz rfl) (by exact rfl) (by exact rfl) (by iterate 24 (first | exact .hd | apply Upd.tl | skip)) rfl rfl rfl rfl ?_
  refine f_have (φ := BS.nil.res) (fun V w hw => nil_res) ?_
  refine r_assign (k := ?_)
  refine sl_nil ?_
  refine sp_then ?_
  refine sw_seq ?_
  refine sw_region ?_
  refine r_call1 (c_one GW) (by exact rfl) (by exact rfl) (by exact rfl) (by simp) (by exact rfl) ?_
  refine r_call1 c_encode_one (by exact rfl) (by exact rfl) (by exact rfl) (by simp) (by exact rfl) ?_
  refine r_move (k := ?_)
  refine r_ext (k := ?_)
  refine r_ext (k := ?_)
  refine r_alloc (by exact z37) (cs := bv (zeros 256)) (by kernel_rfl) (by exact rfl) fun b3 => ?_
  refine r_store_all (cs := bv (zeros 256)) (vs := bv oneA.page) (by exact tz rfl) (by exact rfl) (by exact rfl) (by iterate 24 (first | exact .hd | apply Upd.tl | skip)) rfl (by rw [bv_len]; exact page_len _) (bv_one _) (by rw [bv_len]; rfl) ?_
  refine r_assign (k := ?_)
  refine sl_nil ?_
  refine sp_then ?_
  refine sw_seq ?_
  refine sw_region ?_
  refine r_load_all (cs := bv oneA.page) (by exact tz rfl) (by exact rfl) (by iterate 24 (first | exact .head _ | apply List.Mem.tail | skip)) (by rw [bv_len]; exact page_len _) (by exact rfl) ?_
  refine r_callF c_decode_one (by exact rfl) (by exact rfl) (by exact rfl) (by simp) (by exact rfl) ?_
  rintro _ _ ⟨a2, rfl, hk2, hp2, rfl⟩
  refine r_move (k := ?_)
  refine r_ext (k := ?_)
  refine r_ext (k := ?_)
  refine r_alloc (by exact z32) (cs := zeroA.cs) (by kernel_rfl) (by exact rfl) fun b5 => ?_
  refine r_store_all (cs := zeroA.cs) (vs := a2.cs) (by exact tz rfl) (by exact rfl) (by exact rfl) (by iterate 24 (first | exact .hd | apply Upd.tl | skip)) rfl rfl rfl rfl ?_
  refine r_assign (k := ?_)
  refine sl_nil ?_
  refine sp_then ?_
  refine sw_seq ?_
  have hs : sameV a2 oneA = true := (sameV_iff _ _).2 hp2
  have h0 : (bv oneA.page)[0 * 1]? = some (v8 65) := by rw [← one_cons]; rfl
  
  refine sw_draw [(none, .box b5 a2.cs 32), (none, .box b3 (bv oneA.page) 37)] [a2.mark.key.res, BS.nil.res] [0, 1, 2, 3, 4, 5, 6, 7, 8, 9, 10, 11, 12, 13, 14, 15, 16, 17, 18, 19, 20, 21, 22, 23, 24, 25, 26, 27, 28, 29, 30, 31, 32, 33, 34, 35, 36, 37] mix (by kernel_rfl) rfl ?_
  
  refine ra1 (i := 0) [1, 2, 3, 4, 5, 6, 7, 8, 9, 10, 11, 12, 13, 14, 15, 16, 17, 18, 19, 20, 21, 22, 23, 24, 25, 26, 27, 28, 29, 30, 31, 32, 33, 34, 35, 36, 37] (h := ?_)
  refine r_call1 (c_slot GW 9) (by exact rfl) (by exact rfl) (by exact rfl) (by simp) (by exact rfl) ?_
  refine sl_nil ?_
  refine sp_nx (k := ?_)
  refine ra_first 1 [] [2, 3, 4, 5, 6, 7, 8, 9, 10, 11, 12, 13, 14, 15, 16, 17, 18, 19, 20, 21, 22, 23, 24, 25, 26, 27, 28, 29, 30, 31, 32, 33, 34, 35, 36, 37] (hq := by exact q_eql) (k := ?_)
  refine ra_first 2 [] [3, 4, 5, 6, 7, 8, 9, 10, 11, 12, 13, 14, 15, 16, 17, 18, 19, 20, 21, 22, 23, 24, 25, 26, 27, 28, 29, 30, 31, 32, 33, 34, 35, 36, 37] (hq := by exact q_move) (k := ?_)
  refine ra_firstg 3 [] [4, 5, 6, 7, 8, 9, 10, 11, 12, 13, 14, 15, 16, 17, 18, 19, 20, 21, 22, 23, 24, 25, 26, 27, 28, 29, 30, 31, 32, 33, 34, 35, 36, 37] (hq := by exact q_move) (k := ?_)
  refine ra_firstg 4 [] [5, 6, 7, 8, 9, 10, 11, 12, 13, 14, 15, 16, 17, 18, 19, 20, 21, 22, 23, 24, 25, 26, 27, 28, 29, 30, 31, 32, 33, 34, 35, 36, 37] (hq := by exact q_eql) (k := ?_)
  refine ra_first 5 [] [6, 7, 8, 9, 10, 11, 12, 13, 14, 15, 16, 17, 18, 19, 20, 21, 22, 23, 24, 25, 26, 27, 28, 29, 30, 31, 32, 33, 34, 35, 36, 37] (hq := by first | exact q_pick_t | exact q_pick_f) (k := ?_)
  refine ra_first 6 [] [7, 8, 9, 10, 11, 12, 13, 14, 15, 16, 17, 18, 19, 20, 21, 22, 23, 24, 25, 26, 27, 28, 29, 30, 31, 32, 33, 34, 35, 36, 37] (hq := by exact q_move) (k := ?_)
  refine ra_firstg 7 [] [8, 9, 10, 11, 12, 13, 14, 15, 16, 17, 18, 19, 20, 21, 22, 23, 24, 25, 26, 27, 28, 29, 30, 31, 32, 33, 34, 35, 36, 37] (hq := by exact q_move) (k := ?_)
  refine ra_firstg 8 [] [9, 10, 11, 12, 13, 14, 15, 16, 17, 18, 19, 20, 21, 22, 23, 24, 25, 26, 27, 28, 29, 30, 31, 32, 33, 34, 35, 36, 37] (hq := by exact q_eql) (k := ?_)
  refine ra_first 9 [] [10, 11, 12, 13, 14, 15, 16, 17, 18, 19, 20, 21, 22, 23, 24, 25, 26, 27, 28, 29, 30, 31, 32, 33, 34, 35, 36, 37] (hq := by first | exact q_pick_t | exact q_pick_f) (k := ?_)
  refine ra_first 10 [] [11, 12, 13, 14, 15, 16, 17, 18, 19, 20, 21, 22, 23, 24, 25, 26, 27, 28, 29, 30, 31, 32, 33, 34, 35, 36, 37] (hq := by exact q_move) (k := ?_)
  refine ra_firstg 11 [] [12, 13, 14, 15, 16, 17, 18, 19, 20, 21, 22, 23, 24, 25, 26, 27, 28, 29, 30, 31, 32, 33, 34, 35, 36, 37] (hq := by exact q_idx_arr) (k := ?_)
  refine ra_firstg 12 [(none, .box b5 a2.cs 32), (none, .box b3 (bv oneA.page) 37)] [13, 14, 15, 16, 17, 18, 19, 20, 21, 22, 23, 24, 25, 26, 27, 28, 29, 30, 31, 32, 33, 34, 35, 36, 37] (hq := by exact q_load_one (cs := bv oneA.page) (by exact tz rfl) (by exact rfl) (by iterate 24 (first | exact .head _ | apply List.Mem.tail | skip)) h0) (k := ?_)
  refine ra_firstg 13 [] [14, 15, 16, 17, 18, 19, 20, 21, 22, 23, 24, 25, 26, 27, 28, 29, 30, 31, 32, 33, 34, 35, 36, 37] (hq := by exact q_eql) (k := ?_)
  refine ra_first 14 [] [15, 16, 17, 18, 19, 20, 21, 22, 23, 24, 25, 26, 27, 28, 29, 30, 31, 32, 33, 34, 35, 36, 37] (hq := by first | exact q_pick_t | exact q_pick_f) (k := ?_)
  refine ra_first 15 [] [16, 17, 18, 19, 20, 21, 22, 23, 24, 25, 26, 27, 28, 29, 30, 31, 32, 33, 34, 35, 36, 37] (hq := by exact q_move) (k := ?_)
  refine ra_firstg 16 [] [17, 18, 19, 20, 21, 22, 23, 24, 25, 26, 27, 28, 29, 30, 31, 32, 33, 34, 35, 36, 37] (hq := by exact q_move) (k := ?_)
  refine ra_firstg 17 [] [18, 19, 20, 21, 22, 23, 24, 25, 26, 27, 28, 29, 30, 31, 32, 33, 34, 35, 36, 37] (hq := by exact q_eql) (k := ?_)
  refine ra_first 18 [] [19, 20, 21, 22, 23, 24, 25, 26, 27, 28, 29, 30, 31, 32, 33, 34, 35, 36, 37] (hq := by first | exact q_pick_t | exact q_pick_f) (k := ?_)
  refine ra_first 19 [] [20, 21, 22, 23, 24, 25, 26, 27, 28, 29, 30, 31, 32, 33, 34, 35, 36, 37] (hq := by exact q_move) (k := ?_)
  refine ra_firstg 20 [(none, .box b5 a2.cs 32), (none, .box b3 (bv oneA.page) 37)] [21, 22, 23, 24, 25, 26, 27, 28, 29, 30, 31, 32, 33, 34, 35, 36, 37] (hq := by first | exact q_load_one | exact q_load_all | exact q_load_fr1 | exact q_load_fr) (k := ?_)
  refine ra1 (i := 21) [22, 23, 24, 25, 26, 27, 28, 29, 30, 31, 32, 33, 34, 35, 36, 37] (h := ?_)
  refine r_re (t := 41) (v' := vb true) rfl rfl ?_
  refine gd_yes (k := ?_)
  refine r_call1 (c_one GW) (by exact rfl) (by exact rfl) (by exact rfl) (by simp) (by exact rfl) ?_
  refine sl_nil ?_
  refine sp_nx (k := ?_)
  have hcs := c_rsame GW a2 oneA
  rw [hs] at hcs
  refine ra1 (i := 22) [23, 24, 25, 26, 27, 28, 29, 30, 31, 32, 33, 34, 35, 36, 37] (h := ?_)
  refine r_re (t := 41) (v' := vb true) rfl rfl ?_
  refine gd_yes (k := ?_)
  refine r_call1 hcs (by exact rfl) (by exact rfl) (by exact rfl) (PhAll.all (by repeat' (first | trivial | exact .head _ | apply And.intro | apply List.Mem.tail))) (by exact rfl) ?_
  refine sl_nil ?_
  refine sp_nx (k := ?_)
  refine ra_first 23 [] [24, 25, 26, 27, 28, 29, 30, 31, 32, 33, 34, 35, 36, 37] (hq := by first | exact q_pick_t | exact q_pick_f) (k := ?_)
  refine ra_first 24 [] [25, 26, 27, 28, 29, 30, 31, 32, 33, 34, 35, 36, 37] (hq := by exact q_move) (k := ?_)
  refine ra1 (i := 25) [26, 27, 28, 29, 30, 31, 32, 33, 34, 35, 36, 37] (h := ?_)
  refine r_re (t := 46) (v' := vb true) rfl rfl ?_
  refine gd_yes (k := ?_)
  refine f_have (φ := Res.mem none (ancsV [])) (fun V w hw i v h => by simp [ancsV] at h) ?_
  refine r_call1 (c_newest GW none 0 [] (Nat.zero_le _)) (by exact rfl) (by exact rfl) (by exact rfl) (by simp) (by exact rfl) ?_
  refine sl_nil ?_
  refine sp_nx (k := ?_)
  refine ra_firstg 26 [] [27, 28, 29, 30, 31, 32, 33, 34, 35, 36, 37] (hq := by exact q_eql) (k := ?_)
  refine ra_first 27 [] [28, 29, 30, 31, 32, 33, 34, 35, 36, 37] (hq := by first | exact q_pick_t | exact q_pick_f) (k := ?_)
  refine ra_first 28 [] [29, 30, 31, 32, 33, 34, 35, 36, 37] (hq := by exact q_move) (k := ?_)
  refine ra1 (i := 29) [30, 31, 32, 33, 34, 35, 36, 37] (h := ?_)
  refine r_re (t := 50) (v' := vb true) rfl rfl ?_
  refine gd_yes (k := ?_)
  refine r_call1 (c_one GW) (by exact rfl) (by exact rfl) (by exact rfl) (by simp) (by exact rfl) ?_
  refine sl_nil ?_
  refine sp_nx (k := ?_)
  have hr1 := c_right GW oneA
  rw [one_right] at hr1
  have hr0 := c_right GW zeroA
  rw [zero_right] at hr0
  refine ra1 (i := 30) [31, 32, 33, 34, 35, 36, 37] (h := ?_)
  refine r_re (t := 50) (v' := vb true) rfl rfl ?_
  refine gd_yes (k := ?_)
  refine r_call1 hr1 (by exact rfl) (by exact rfl) (by exact rfl) (PhAll.all (by repeat' (first | trivial | exact .head _ | apply And.intro | apply List.Mem.tail))) (by exact rfl) ?_
  refine sl_nil ?_
  refine sp_nx (k := ?_)
  refine ra_first 31 [] [32, 33, 34, 35, 36, 37] (hq := by first | exact q_pick_t | exact q_pick_f) (k := ?_)
  refine ra_first 32 [] [33, 34, 35, 36, 37] (hq := by exact q_move) (k := ?_)
  refine ra1 (i := 33) [34, 35, 36, 37] (h := ?_)
  refine r_re (t := 54) (v' := vb true) rfl rfl ?_
  refine gd_yes (k := ?_)
  refine r_buildP zeroA.cs (parts := []) (by exact rfl) (by kernel_rfl) (by exact rfl) ?_
  refine sl_nil ?_
  refine sp_nx (k := ?_)
  refine ra1 (i := 34) [35, 36, 37] (h := ?_)
  refine r_re (t := 54) (v' := vb true) rfl rfl ?_
  refine gd_yes (k := ?_)
  refine r_call1 hr0 (by exact rfl) (by exact rfl) (by exact rfl) (PhAll.all (by repeat' (first | trivial | exact .head _ | apply And.intro | apply List.Mem.tail))) (by exact rfl) ?_
  refine sl_nil ?_
  refine sp_nx (k := ?_)
  refine ra_firstg 35 [] [36, 37] (hq := by exact q_not) (k := ?_)
  refine ra_first 36 [] [37] (hq := by first | exact q_pick_t | exact q_pick_f) (k := ?_)
  refine ra1 (i := 37) [] (h := ?_)
  refine r_assign (k := ?_)
  refine sl_nil ?_
  refine sp_nx (k := ?_)
  refine ra_done ?_
  refine sp_then ?_
  refine sw_ret ?_
  refine sp_retv rfl rfl (.tmp rfl) rfl rfl ⟨?_, rfl, rfl⟩ (by simp) rfl (by simp)
  rfl
end Go.Proofs.YtjahiohlekdhoaaDoor

namespace Go.Proofs.YtjahiohlekdhoaaDoor
open Go

theorem unle_nil : unle [] = 0 := rfl
theorem unle_cons (b : UInt8) (l : List UInt8) : unle (b :: l) = (unle l <<< UInt64.ofNat 8) ||| b.toUInt64 := by
  simp [unle, List.foldl_append]
theorem or_add (x y : Nat) (h : y < 256) : (x * 256) ||| y = x * 256 + y := by
  have := Nat.two_pow_add_eq_or_of_lt (i := 8) (by simpa using h) x
  rw [show (2 : Nat) ^ 8 = 256 from rfl, Nat.mul_comm] at this
  exact this.symm
theorem unle_toNat : ∀ (l : List UInt8), l.length ≤ 8 → (unle l).toNat < 256 ^ l.length ∧ ∀ b : UInt8, l.length ≤ 7 → (unle (b :: l)).toNat = (unle l).toNat * 256 + b.toNat
  | [], _ => ⟨by decide, fun b _ => by rw [unle_cons, unle_nil]; simp⟩
  | c :: l, h => by
    have h7 : l.length ≤ 7 := by simpa using h
    obtain ⟨h1, h2⟩ := unle_toNat l (by omega)
    have h3 := h2 c h7
    have hc := lt8 c
    have hb : (unle (c :: l)).toNat < 256 ^ (c :: l).length := by
      rw [h3, List.length_cons, Nat.pow_succ]
      have : (unle l).toNat + 1 ≤ 256 ^ l.length := h1
      have := Nat.mul_le_mul_right 256 this
      rw [Nat.add_mul] at this
      omega
    refine ⟨hb, fun b hl => ?_⟩
    have hl6 : l.length ≤ 6 := by simpa using hl
    have h56 : (unle (c :: l)).toNat < 256 ^ 7 := Nat.lt_of_lt_of_le hb (Nat.pow_le_pow_right (by omega) (by simpa using hl))
    rw [unle_cons b (c :: l), UInt64.toNat_or, UInt64.toNat_shiftLeft]
    have e8 : (UInt64.ofNat 8).toNat % 64 = 8 := rfl
    rw [e8, Nat.shiftLeft_eq, show (2 : Nat) ^ 8 = 256 from rfl, Nat.mod_eq_of_lt (by
      have : (256 : Nat) ^ 7 * 256 = 2 ^ 64 := by decide
      have h := Nat.mul_lt_mul_of_pos_right h56 (show 0 < 256 by omega)
      rw [this] at h
      exact h)]
    have e : b.toUInt64.toNat = b.toNat := by simp
    rw [e, or_add _ _ (lt8 b)]
theorem unle_lt (l : List UInt8) (h : l.length ≤ 8) : (unle l).toNat < 256 ^ l.length := (unle_toNat l h).1
theorem unle_step (b : UInt8) (l : List UInt8) (h : l.length ≤ 7) : (unle (b :: l)).toNat = (unle l).toNat * 256 + b.toNat := (unle_toNat l (by omega)).2 b h

theorem shr8 (x : UInt64) : (x >>> UInt64.ofNat 8).toNat = x.toNat / 256 := by
  rw [UInt64.toNat_shiftRight, show (UInt64.ofNat 8).toNat % 64 = 8 from rfl, Nat.shiftRight_eq_div_pow]
theorem byte_toNat (x : UInt64) : x.toUInt8.toNat = x.toNat % 256 := by simp

/-- Bytes, read and written again. -/
theorem le_unle : ∀ (l : List UInt8), l.length ≤ 8 → le l.length (unle l) = l
  | [], _ => rfl
  | b :: l, h => by
    have h7 : l.length ≤ 7 := by simpa using h
    have hs := unle_step b l h7
    have hb := lt8 b
    rw [List.length_cons, le]
    have e1 : (unle (b :: l)).toUInt8 = b := UInt8.toNat_inj.1 (by rw [byte_toNat, hs]; omega)
    have e2 : unle (b :: l) >>> UInt64.ofNat 8 = unle l := UInt64.toNat_inj.1 (by rw [shr8, hs]; omega)
    rw [e1, e2, le_unle l (by omega)]
theorem le_unle' (l : List UInt8) (k : Nat) (h : l.length = k) (hk : k ≤ 8) : le k (unle l) = l := by subst h; exact le_unle l hk
/-- A number, written and read again. -/
theorem unle_le : ∀ (k : Nat) (x : UInt64), k ≤ 8 → (unle (le k x)).toNat = x.toNat % 256 ^ k
  | 0, x, _ => by rw [le, unle_nil]; simp; omega
  | k + 1, x, h => by
    rw [le, unle_step _ _ (by rw [le_length]; omega), unle_le k _ (by omega), shr8, byte_toNat, Nat.pow_succ, Nat.mul_comm (256 ^ k) 256, Nat.mod_mul]
    omega
theorem unle_le_id (k : Nat) (x : UInt64) (h : k ≤ 8) (hx : x.toNat < 256 ^ k) : unle (le k x) = x := UInt64.toNat_inj.1 (by rw [unle_le k x h, Nat.mod_eq_of_lt hx])

theorem narrow8 (x : UInt64) (h : x.toNat < 256) : x.toUInt8.toUInt64 = x := UInt64.toNat_inj.1 (by simp; omega)
theorem narrow16 (x : UInt64) (h : x.toNat < 65536) : x.toUInt16.toUInt64 = x := UInt64.toNat_inj.1 (by simp; omega)
theorem narrow32 (x : UInt64) (h : x.toNat < 4294967296) : x.toUInt32.toUInt64 = x := UInt64.toNat_inj.1 (by simp; omega)
theorem wide8 (x : UInt8) : x.toUInt64.toUInt8 = x := UInt8.toNat_inj.1 (by simp)
theorem wide16 (x : UInt16) : x.toUInt64.toUInt16 = x := UInt16.toNat_inj.1 (by have := lt16 x; simp)
theorem wide32 (x : UInt32) : x.toUInt64.toUInt32 = x := UInt32.toNat_inj.1 (by have := lt32 x; simp)

theorem le1_of (l : List UInt8) (h : l.length = 1) : le 1 (unle l).toUInt8.toUInt64 = l := by
  have := unle_lt l (by omega)
  rw [h] at this
  rw [narrow8 _ (by simpa using this), le_unle' l 1 h (by omega)]
theorem le2_of (l : List UInt8) (h : l.length = 2) : le 2 (unle l).toUInt16.toUInt64 = l := by
  have := unle_lt l (by omega)
  rw [h] at this
  rw [narrow16 _ (by simpa using this), le_unle' l 2 h (by omega)]
theorem le4_of (l : List UInt8) (h : l.length = 4) : le 4 (unle l).toUInt32.toUInt64 = l := by
  have := unle_lt l (by omega)
  rw [h] at this
  rw [narrow32 _ (by simpa using this), le_unle' l 4 h (by omega)]
theorem of_le1 (x : UInt8) : (unle (le 1 x.toUInt64)).toUInt8 = x := by rw [unle_le_id 1 _ (by omega) (by have := lt8 x; simp; omega), wide8]
theorem of_le2 (x : UInt16) : (unle (le 2 x.toUInt64)).toUInt16 = x := by rw [unle_le_id 2 _ (by omega) (by have := lt16 x; simp; omega), wide16]
theorem of_le4 (x : UInt32) : (unle (le 4 x.toUInt64)).toUInt32 = x := by rw [unle_le_id 4 _ (by omega) (by have := lt32 x; simp; omega), wide32]

/-- A pointer's bytes, read and written again. -/
theorem ptake_bytes (l : List UInt8) (h : l.length = 17) : (ptake l).bytes = l := by
  obtain ⟨a, b, c, d, e, rfl, ha, hb, hc, hd, he⟩ : ∃ a b c d e : List UInt8, l = a ++ (b ++ (c ++ (d ++ e))) ∧ a.length = 1 ∧ b.length = 2 ∧ c.length = 2 ∧ d.length = 4 ∧ e.length = 8 :=
    ⟨l.take 1, (l.drop 1).take 2, (l.drop 3).take 2, (l.drop 5).take 4, l.drop 9, by
      have h1 : l.drop 5 = (l.drop 5).take 4 ++ l.drop 9 := by rw [show 9 = 5 + 4 from rfl, ← List.drop_drop, List.take_append_drop]
      have h2 : l.drop 3 = (l.drop 3).take 2 ++ l.drop 5 := by rw [show 5 = 3 + 2 from rfl, ← List.drop_drop, List.take_append_drop]
      have h3 : l.drop 1 = (l.drop 1).take 2 ++ l.drop 3 := by rw [show 3 = 1 + 2 from rfl, ← List.drop_drop, List.take_append_drop]
      rw [← h1, ← h2, ← h3, List.take_append_drop], by simp; omega, by simp; omega, by simp; omega, by simp; omega, by simp; omega⟩
  have t1 : (a ++ (b ++ (c ++ (d ++ e)))).take 1 = a := List.take_left' ha
  have d1 : (a ++ (b ++ (c ++ (d ++ e)))).drop 1 = b ++ (c ++ (d ++ e)) := List.drop_left' ha
  have d3 : (a ++ (b ++ (c ++ (d ++ e)))).drop 3 = c ++ (d ++ e) := by rw [show 3 = 1 + 2 from rfl, ← List.drop_drop, d1]; exact List.drop_left' hb
  have d5 : (a ++ (b ++ (c ++ (d ++ e)))).drop 5 = d ++ e := by rw [show 5 = 3 + 2 from rfl, ← List.drop_drop, d3]; exact List.drop_left' hc
  have d9 : (a ++ (b ++ (c ++ (d ++ e)))).drop 9 = e := by rw [show 9 = 5 + 4 from rfl, ← List.drop_drop, d5]; exact List.drop_left' hd
  simp only [ptake, t1, d1, d3, d5, d9, List.take_left' hb, List.take_left' hc, List.take_left' hd, List.take_of_length_le (Nat.le_of_eq he)]
  simp only [PtrV.bytes, PtrV.nums, packed, List.flatMap_cons, List.flatMap_nil, List.append_nil, le1_of a ha, le2_of b hb, le2_of c hc, le4_of d hd, le_unle' e 8 he (by omega)]
theorem bytes_len (x : PtrV) : x.bytes.length = 17 := by rw [PtrV.bytes, packed_len]; rfl
theorem bytes_ptake (x : PtrV) (r : List UInt8) : ptake (x.bytes ++ r) = x := by
  have e : x.bytes ++ r = le 1 x.kind.toUInt64 ++ (le 2 x.a0.toUInt64 ++ (le 2 x.a1.toUInt64 ++ (le 4 x.birth.toUInt64 ++ (le 8 x.sum ++ r)))) := by
    simp [PtrV.bytes, PtrV.nums, packed]
  rw [e]
  obtain ⟨q1, h1⟩ : ∃ q, q = le 2 x.a0.toUInt64 ++ (le 2 x.a1.toUInt64 ++ (le 4 x.birth.toUInt64 ++ (le 8 x.sum ++ r))) := ⟨_, rfl⟩
  have t1 : (le 1 x.kind.toUInt64 ++ q1).take 1 = le 1 x.kind.toUInt64 := List.take_left' (le_length _ _)
  have d1 : (le 1 x.kind.toUInt64 ++ q1).drop 1 = q1 := List.drop_left' (le_length _ _)
  have t2 : q1.take 2 = le 2 x.a0.toUInt64 := by rw [h1]; exact List.take_left' (le_length _ _)
  have d3 : (le 1 x.kind.toUInt64 ++ q1).drop 3 = le 2 x.a1.toUInt64 ++ (le 4 x.birth.toUInt64 ++ (le 8 x.sum ++ r)) := by rw [show 3 = 1 + 2 from rfl, ← List.drop_drop, d1, h1]; exact List.drop_left' (le_length _ _)
  have d5 : (le 1 x.kind.toUInt64 ++ q1).drop 5 = le 4 x.birth.toUInt64 ++ (le 8 x.sum ++ r) := by rw [show 5 = 3 + 2 from rfl, ← List.drop_drop, d3]; exact List.drop_left' (le_length _ _)
  have d9 : (le 1 x.kind.toUInt64 ++ q1).drop 9 = le 8 x.sum ++ r := by rw [show 9 = 5 + 4 from rfl, ← List.drop_drop, d5]; exact List.drop_left' (le_length _ _)
  rw [← h1]
  simp only [ptake, t1, d1, d3, d5, d9, t2]
  rw [List.take_left' (le_length _ _), List.take_left' (le_length _ _), List.take_left' (le_length _ _), of_le1, of_le2, of_le2, of_le4, unle_le_id 8 _ (by omega) (by have := lt64 x.sum; simpa using this)]
end Go.Proofs.YtjahiohlekdhoaaDoor

namespace Go.Proofs.YtjahiohlekdhoaaDoor
open Go

/-- One bit's step. -/
def T (c : BitVec 64) : BitVec 64 := (c >>> 1) ^^^ (if c.getLsbD 0 then 14514072000185962306#64 else 0#64)
theorem and_one (c : UInt64) : (c &&& 1).toBitVec = if c.toBitVec.getLsbD 0 then 1#64 else 0#64 := by
  apply BitVec.eq_of_getLsbD_eq
  intro i hi
  have h1 : (1#64).getLsbD i = decide (i = 0) := by
    rcases i with _ | i
    · rfl
    · simp [BitVec.getLsbD_one]
  simp only [UInt64.toBitVec_and, BitVec.getLsbD_and]
  rw [show (1 : UInt64).toBitVec = 1#64 from rfl, h1]
  by_cases h0 : i = 0
  · subst h0
    cases c.toBitVec.getLsbD 0 <;> simp
  · simp only [h0, decide_false, Bool.and_false]
    split
    · rw [h1]; simp [h0]
    · simp
theorem rk_T (c : UInt64) : (rk c).toBitVec = T c.toBitVec := by
  unfold rk T
  rw [UInt64.toBitVec_xor, UInt64.toBitVec_mul, and_one, UInt64.toBitVec_shiftRight]
  have e1 : c.toBitVec >>> ((UInt64.ofNat 1).toBitVec % 64#64) = c.toBitVec >>> 1 := rfl
  have e2 : (14514072000185962306 : UInt64).toBitVec = 14514072000185962306#64 := rfl
  have e3 : 14514072000185962306#64 * 1#64 = 14514072000185962306#64 := by decide
  have e4 : 14514072000185962306#64 * 0#64 = 0#64 := by decide
  rw [e2]
  split
  · rw [e3]; rfl
  · rw [e4]; rfl

theorem shr_xor (x y : BitVec 64) (n : Nat) : (x ^^^ y) >>> n = (x >>> n) ^^^ (y >>> n) := by
  apply BitVec.eq_of_getLsbD_eq
  intro i hi
  simp
theorem T_xor (x y : BitVec 64) : T (x ^^^ y) = T x ^^^ T y := by
  unfold T
  rw [shr_xor, BitVec.getLsbD_xor]
  cases x.getLsbD 0 <;> cases y.getLsbD 0 <;> simp
  · ac_rfl
  · ac_rfl
  · rw [show x >>> 1 ^^^ 14514072000185962306#64 ^^^ (y >>> 1 ^^^ 14514072000185962306#64) = (x >>> 1 ^^^ y >>> 1) ^^^ (14514072000185962306#64 ^^^ 14514072000185962306#64) by ac_rfl, BitVec.xor_self, BitVec.xor_zero]
theorem T_zero {z : BitVec 64} (h : T z = 0#64) : z = 0#64 := by
  unfold T at h
  have h63 : (z >>> 1).getLsbD 63 = false := by simp
  cases h0 : z.getLsbD 0 with
  | true =>
    rw [h0] at h
    have := congrArg (fun b => BitVec.getLsbD b 63) h
    simp only [BitVec.getLsbD_xor, h63, if_true] at this
    exact absurd this (by decide)
  | false =>
    rw [h0] at h
    apply BitVec.eq_of_getLsbD_eq
    intro i hi
    rcases i with _ | i
    · rw [h0]; simp
    · have := congrArg (fun b => BitVec.getLsbD b i) h
      simp at this
      rw [Nat.add_comm i 1, this]; simp
theorem xor_zero_eq {x y : BitVec 64} (h : x ^^^ y = 0#64) : x = y := by
  have : x ^^^ y ^^^ y = 0#64 ^^^ y := by rw [h]
  simpa [BitVec.xor_assoc] using this
theorem T_inj {x y : BitVec 64} (h : T x = T y) : x = y := xor_zero_eq (T_zero (by rw [T_xor, h, BitVec.xor_self]))

def TN : Nat → BitVec 64 → BitVec 64
  | 0, c => c
  | n + 1, c => T (TN n c)
theorem rkN_T : ∀ (n : Nat) (c : UInt64), (rkN n c).toBitVec = TN n c.toBitVec
  | 0, _ => rfl
  | n + 1, c => by rw [rkN, rk_T, rkN_T n c, TN]
theorem TN_xor : ∀ (n : Nat) (x y : BitVec 64), TN n (x ^^^ y) = TN n x ^^^ TN n y
  | 0, _, _ => rfl
  | n + 1, x, y => by rw [TN, TN_xor n x y, T_xor]; rfl
theorem TN_inj : ∀ (n : Nat) {x y : BitVec 64}, TN n x = TN n y → x = y
  | 0, _, _, h => h
  | n + 1, _, _, h => TN_inj n (T_inj h)
theorem TN_add : ∀ (m n : Nat) (x : BitVec 64), TN (m + n) x = TN m (TN n x)
  | 0, n, x => by rw [Nat.zero_add]; rfl
  | m + 1, n, x => by rw [Nat.succ_add, TN, TN_add m n x]; rfl
/-- Bits that lie high come down as they are. -/
theorem TN_high : ∀ (n : Nat) (z : BitVec 64), (∀ i, i < n → z.getLsbD i = false) → TN n z = z >>> n
  | 0, z, _ => by simp [TN]
  | n + 1, z, h => by
    rw [TN, TN_high n z fun i hi => h i (by omega)]
    unfold T
    have h0 : (z >>> n).getLsbD 0 = false := by simp [h n (by omega)]
    rw [h0]
    simp only [Bool.false_eq_true, if_false, BitVec.xor_zero]
    apply BitVec.eq_of_getLsbD_eq
    intro i hi
    simp [Nat.add_comm, Nat.add_left_comm]

theorem byte_bits (b : UInt8) (i : Nat) : b.toUInt64.toBitVec.getLsbD i = b.toBitVec.getLsbD i := by
  simp
  intro h
  have := BitVec.lt_of_getLsbD h
  omega
theorem low_bits (x : UInt64) (i : Nat) : x.toUInt8.toBitVec.getLsbD i = (decide (i < 8) && x.toBitVec.getLsbD i) := by simp
/-- A byte's step: eight bits' steps. -/
theorem step_T (x : UInt64) (b : UInt8) : (step x b).toBitVec = TN 8 (x.toBitVec ^^^ b.toUInt64.toBitVec) := by
  have hx : x.toBitVec ^^^ b.toUInt64.toBitVec = (x.toUInt8 ^^^ b).toUInt64.toBitVec ^^^ ((x.toBitVec >>> 8) <<< 8) := by
    apply BitVec.eq_of_getLsbD_eq
    intro i hi
    rw [BitVec.getLsbD_xor, BitVec.getLsbD_xor, byte_bits, byte_bits, UInt8.toBitVec_xor, BitVec.getLsbD_xor, low_bits, BitVec.getLsbD_shiftLeft, BitVec.getLsbD_ushiftRight]
    by_cases h8 : i < 8
    · simp [h8]
    · have hb : b.toBitVec.getLsbD i = false := BitVec.getLsbD_of_ge _ _ (by omega)
      have : 8 + (i - 8) = i := by omega
      simp [h8, hi, hb, this]
  have hh : TN 8 ((x.toBitVec >>> 8) <<< 8) = x.toBitVec >>> 8 := by
    rw [TN_high 8 _ fun i hi => by simp [hi]]
    apply BitVec.eq_of_getLsbD_eq
    intro i hi
    simp only [BitVec.getLsbD_ushiftRight, BitVec.getLsbD_shiftLeft]
    by_cases h : 8 + i < 64
    · simp [h]
    · have : x.toBitVec.getLsbD (8 + i) = false := BitVec.getLsbD_of_ge _ _ (by omega)
      simp [h, this]
  unfold step reckon
  rw [UInt64.toBitVec_xor, rkN_T, hx, TN_xor, hh, UInt64.toBitVec_shiftRight]
  rfl
/-- Some bytes' steps: as many bits' steps of the state and the bytes as one number. -/
theorem steps_T : ∀ (l : List UInt8) (x : UInt64), l.length ≤ 8 → (l.foldl step x).toBitVec = TN (8 * l.length) (x.toBitVec ^^^ (unle l).toBitVec)
  | [], x, _ => by rw [unle_nil]; simp [TN]
  | b :: l, x, h => by
    have h7 : l.length ≤ 7 := by simpa using h
    have hlt := unle_lt l (by omega)
    have h56 : (unle l).toNat < 2 ^ 56 := Nat.lt_of_lt_of_le hlt (by
      have := Nat.pow_le_pow_right (show 0 < 256 by omega) h7
      exact Nat.le_trans this (by decide))
    have hbit : ∀ i, 56 ≤ i → (unle l).toBitVec.getLsbD i = false := fun i hi => by
      rw [BitVec.getLsbD, UInt64.toNat_toBitVec]
      exact Nat.testBit_lt_two_pow (Nat.lt_of_lt_of_le h56 (Nat.pow_le_pow_right (by omega) hi))
    have hsh : TN 8 ((unle l).toBitVec <<< 8) = (unle l).toBitVec := by
      rw [TN_high 8 _ fun i hi => by simp [hi]]
      apply BitVec.eq_of_getLsbD_eq
      intro i hi
      simp only [BitVec.getLsbD_ushiftRight, BitVec.getLsbD_shiftLeft]
      by_cases h : 8 + i < 64
      · simp [h]
      · rw [hbit i (by omega)]; simp [h]
    have hun : (unle (b :: l)).toBitVec = b.toUInt64.toBitVec ^^^ ((unle l).toBitVec <<< 8) := by
      rw [unle_cons, UInt64.toBitVec_or, UInt64.toBitVec_shiftLeft]
      rw [show (unle l).toBitVec <<< ((UInt64.ofNat 8).toBitVec % 64) = (unle l).toBitVec <<< 8 from rfl]
      apply BitVec.eq_of_getLsbD_eq
      intro i hi
      rw [BitVec.getLsbD_or, BitVec.getLsbD_xor, byte_bits, BitVec.getLsbD_shiftLeft]
      by_cases h8 : i < 8
      · simp [h8]
      · have hb : b.toBitVec.getLsbD i = false := BitVec.getLsbD_of_ge _ _ (by omega)
        simp [hb]
    rw [List.foldl_cons, steps_T l (step x b) (by omega), step_T, hun, List.length_cons, show 8 * (l.length + 1) = 8 * l.length + 8 by omega, TN_add, ← BitVec.xor_assoc, TN_xor 8 (x.toBitVec ^^^ b.toUInt64.toBitVec), hsh]
theorem steps_inj : ∀ (l : List UInt8) {x y : UInt64}, l.foldl step x = l.foldl step y → x = y
  | [], _, _, h => h
  | b :: l, x, y, h => by
    have h1 := steps_inj l (x := step x b) (y := step y b) h
    have h2 := congrArg UInt64.toBitVec h1
    rw [step_T, step_T] at h2
    have h3 := TN_inj 8 h2
    have h4 : x.toBitVec ^^^ b.toUInt64.toBitVec ^^^ b.toUInt64.toBitVec = y.toBitVec ^^^ b.toUInt64.toBitVec ^^^ b.toUInt64.toBitVec := by rw [h3]
    rw [BitVec.xor_assoc, BitVec.xor_assoc, BitVec.xor_self, BitVec.xor_zero, BitVec.xor_zero] at h4
    exact UInt64.toBitVec_inj.1 h4
/-- BYTES THAT DIFFER WITHIN EIGHT ALONE HAVE TWO SUMS. -/
theorem burst (pre u v suf : List UInt8) (hu : u.length ≤ 8) (hv : v.length = u.length) (h : sum (pre ++ (u ++ suf)) = sum (pre ++ (v ++ suf))) : u = v := by
  unfold sum at h
  have h1 : (pre ++ (u ++ suf)).foldl step (UInt64.ofNat 18446744073709551615) = (pre ++ (v ++ suf)).foldl step (UInt64.ofNat 18446744073709551615) := by
    have := congrArg (fun x => ~~~ x) h
    simpa using this
  rw [List.foldl_append, List.foldl_append, List.foldl_append, List.foldl_append] at h1
  have h2 := congrArg UInt64.toBitVec (steps_inj suf h1)
  rw [steps_T u _ hu, steps_T v _ (by omega), hv] at h2
  have h3 := TN_inj _ h2
  have h4 := congrArg (fun z => (List.foldl step (UInt64.ofNat 18446744073709551615) pre).toBitVec ^^^ z) h3
  simp only [← BitVec.xor_assoc, BitVec.xor_self, BitVec.zero_xor] at h4
  have h5 : unle u = unle v := UInt64.toBitVec_inj.1 h4
  rw [← le_unle u hu, ← le_unle v (by omega), h5, hv]
end Go.Proofs.YtjahiohlekdhoaaDoor

namespace Go.Proofs.YtjahiohlekdhoaaDoor
open Go

theorem page_pure {a b : AncV} (h : a.pure = b.pure) : a.page = b.page := by
  obtain ⟨h1, h2, h3, h4, h5, h6, h7, h8, h9, h10⟩ := AncP.mk.inj h
  have hn : a.nums = b.nums := by unfold AncV.nums; rw [h1, h2, h4, h5, h6, h7, h8, h9]
  have hh : a.head = b.head := by
    unfold AncV.head
    rw [hn]
    have : putN a = putN b := by funext s p; unfold putN; rw [h3]
    rw [this]
  have hb : a.body = b.body := by unfold AncV.body; rw [hh, h10]
  unfold AncV.page
  rw [hb]

/-- The bytes behind the first one, ahead of the key. -/
def AncV.nine (a : AncV) : List UInt8 := le 4 a.tx.toUInt64 ++ (le 2 a.size.toUInt64 ++ (a.root.bytes ++ (le 4 a.count.toUInt64 ++ (le 1 a.live.toUInt64 ++ (le 4 a.both.toUInt64 ++ (le 1 a.mark.on.toUInt64 ++ (le 1 a.mark.disk.toUInt64 ++ le 4 a.mark.since.toUInt64)))))))
theorem head_nine (a : AncV) : a.head = 65 :: a.nine := by simp [AncV.head, AncV.nums, putN, AncV.nine]

/-- A list in nine pieces and a rest. -/
structure Pieces (q : List UInt8) where
  t : List UInt8
  s : List UInt8
  r : List UInt8
  c : List UInt8
  l : List UInt8
  b : List UInt8
  o : List UInt8
  d : List UInt8
  i : List UInt8
  z : List UInt8
  eq : q = t ++ (s ++ (r ++ (c ++ (l ++ (b ++ (o ++ (d ++ (i ++ z))))))))
  ht : t.length = 4
  hs : s.length = 2
  hr : r.length = 17
  hc : c.length = 4
  hl : l.length = 1
  hb : b.length = 4
  ho : o.length = 1
  hd : d.length = 1
  hi : i.length = 4

theorem piece (q : List UInt8) (n k : Nat) (h : n ≤ q.length) : ∃ a r, q = a ++ r ∧ a.length = n ∧ r.length = q.length - n ∧ k = k :=
  ⟨q.take n, q.drop n, (List.take_append_drop n q).symm, by simp; omega, by simp, rfl⟩
theorem pieces (q : List UInt8) (h : 38 ≤ q.length) : Nonempty (Pieces q) := by
  obtain ⟨t, q1, rfl, ht, h1, _⟩ := piece q 4 0 (by omega)
  simp only [List.length_append, ht] at h
  obtain ⟨s, q2, rfl, hs, h2, _⟩ := piece q1 2 0 (by omega)
  simp only [List.length_append, hs] at h
  obtain ⟨r, q3, rfl, hr, h3, _⟩ := piece q2 17 0 (by omega)
  simp only [List.length_append, hr] at h
  obtain ⟨c, q4, rfl, hc, h4, _⟩ := piece q3 4 0 (by omega)
  simp only [List.length_append, hc] at h
  obtain ⟨l, q5, rfl, hl, h5, _⟩ := piece q4 1 0 (by omega)
  simp only [List.length_append, hl] at h
  obtain ⟨b, q6, rfl, hb, h6, _⟩ := piece q5 4 0 (by omega)
  simp only [List.length_append, hb] at h
  obtain ⟨o, q7, rfl, ho, h7, _⟩ := piece q6 1 0 (by omega)
  simp only [List.length_append, ho] at h
  obtain ⟨d, q8, rfl, hd, h8, _⟩ := piece q7 1 0 (by omega)
  simp only [List.length_append, hd] at h
  obtain ⟨i, z, rfl, hi, h9, _⟩ := piece q8 4 0 (by omega)
  exact ⟨⟨t, s, r, c, l, b, o, d, i, z, rfl, ht, hs, hr, hc, hl, hb, ho, hd, hi⟩⟩

theorem ptake_app (r s : List UInt8) (h : r.length = 17) : ptake (r ++ s) = ptake r := by
  have := bytes_ptake (ptake r) s
  rwa [ptake_bytes r h] at this
theorem takeN_eq (w : Nat) (hw : ¬ w = 0) (x : UInt64) (a rest : List UInt8) (l : List UInt64) (i : Nat) (root : PtrV) (h : a.length = w) : takeN ⟨a ++ rest, l, i, root⟩ (x, w) = ⟨rest, l.set i (unle a), i + 1, root⟩ := by
  unfold takeN
  rw [if_neg hw]
  simp only [List.drop_left' h, List.take_left' h]
theorem takeN_root (x : UInt64) (a rest : List UInt8) (l : List UInt64) (i : Nat) (root : PtrV) (h : a.length = 17) : takeN ⟨a ++ rest, l, i, root⟩ (x, 0) = ⟨rest, l, i + 1, ptake a⟩ := by
  unfold takeN
  rw [if_pos rfl]
  simp only [List.drop_left' h, ptake_app a rest h]
theorem decD_pieces {p q : List UInt8} (hq : (p.drop 1).take 247 = q) (P : Pieces q) : decD p = ⟨P.z, [unle P.t, unle P.s, 0, unle P.c, unle P.l, unle P.b, unle P.o, unle P.d, unle P.i], 9, ptake P.r⟩ := by
  have e := hq.trans P.eq
  unfold decD
  rw [e]
  simp only [AncV.nums, List.foldl_cons, List.foldl_nil]
  rw [takeN_eq 4 (by decide) _ _ _ _ _ _ P.ht, takeN_eq 2 (by decide) _ _ _ _ _ _ P.hs, takeN_root _ _ _ _ _ _ P.hr, takeN_eq 4 (by decide) _ _ _ _ _ _ P.hc, takeN_eq 1 (by decide) _ _ _ _ _ _ P.hl, takeN_eq 4 (by decide) _ _ _ _ _ _ P.hb,
    takeN_eq 1 (by decide) _ _ _ _ _ _ P.ho, takeN_eq 1 (by decide) _ _ _ _ _ _ P.hd, takeN_eq 4 (by decide) _ _ _ _ _ _ P.hi]
  rfl

/-- The anchor that pieces tell, with a key. -/
def Pieces.anc {q : List UInt8} (P : Pieces q) (key : BS) : AncV := ⟨(unle P.t).toUInt32, (unle P.s).toUInt16, ptake P.r, (unle P.c).toUInt32, (unle P.l).toUInt8, (unle P.b).toUInt32, ⟨(unle P.o).toUInt8, (unle P.d).toUInt8, (unle P.i).toUInt32, key⟩⟩
theorem Pieces.nine {q : List UInt8} (P : Pieces q) (key : BS) : (P.anc key).nine ++ P.z = q := by
  simp only [AncV.nine, Pieces.anc, le4_of _ P.ht, le2_of _ P.hs, ptake_bytes _ P.hr, le4_of _ P.hc, le1_of _ P.hl, le4_of _ P.hb, le1_of _ P.ho, le1_of _ P.hd, le4_of _ P.hi]
  refine Eq.trans ?_ P.eq.symm
  simp only [List.append_assoc]

theorem clean_zeros : ∀ (l : List UInt8), l.any nonzero = false → l = zeros l.length
  | [], _ => rfl
  | b :: l, h => by
    simp only [List.any_cons, Bool.or_eq_false_iff] at h
    have hb : b = 0 := by
      have := h.1
      simp only [nonzero, ne_eq, decide_not, Bool.not_eq_false', decide_eq_true_eq] at this
      exact UInt8.toNat_inj.1 (by simpa using this)
    rw [hb, clean_zeros l h.2]
    simp [zeros, List.replicate_succ]
theorem zeros_clean (n : Nat) : (zeros n).any nonzero = false := by
  rw [List.any_eq_false]
  intro x hx
  rw [zeros, List.mem_replicate] at hx
  rw [hx.2]; decide

/-- WHAT IS DECODED HAS JUST THIS PAGE, AND MAY BE. -/
theorem dec_page {n : UInt8} {l : List UInt8} (hp : (n :: l).length = 256) {a : AncV} (h : decV n (n :: l) = (a.pure, 0)) : a.right = true ∧ a.page = n :: l := by
  unfold decV at h
  cases hb : badP n (n :: l) with
  | true => rw [hb] at h; simp at h
  | false =>
    rw [hb] at h
    simp only [cond_false] at h
    simp only [badP, Bool.or_eq_false_iff, decide_eq_false_iff_not, ne_eq, Decidable.not_not, Int.ofNat_inj] at hb
    obtain ⟨hn, hsum⟩ := hb
    have hn65 : n = 65 := UInt8.toNat_inj.1 (by have : (n.toNat : Int) = 65 := hn; exact Int.ofNat_inj.1 this)
    have hsum : unle ((n :: l).drop 248) = sum ((n :: l).take 248) := UInt64.toNat_inj.1 hsum
    subst hn65
    have hll : l.length = 255 := by simpa using hp
    obtain ⟨P⟩ := pieces (((65 :: l : List UInt8).drop 1).take 247) (by simp [hll])
    have hzl : P.z.length = 209 := by
      have := congrArg List.length P.eq
      simp only [List.length_append, P.ht, P.hs, P.hr, P.hc, P.hl, P.hb, P.ho, P.hd, P.hi, List.length_take, List.length_drop, List.length_cons, hll] at this
      omega
    rw [decD_pieces rfl P] at h
    obtain ⟨m, r, hmr⟩ : ∃ m r, P.z = m :: r := by
      cases hz : P.z with
      | nil => rw [hz] at hzl; cases hzl
      | cons m r => exact ⟨m, r, rfl⟩
    unfold decR at h
    rw [hmr] at h
    dsimp only at h
    split at h
    · rename_i hc
      obtain ⟨he, hr, hcl⟩ := hc
      have hpure := (Prod.mk.inj h).1
      have hm8 := lt8 m
      have hrl : r.length = 208 := by rw [hmr] at hzl; simpa using hzl
      have htb : takeB m r 8 = (r.take m.toNat, r.drop m.toNat, 0) ∧ m.toNat ≤ 8 := by
        unfold takeB at he ⊢
        split
        · rename_i h1; rw [if_pos h1] at he; cases he
        · rename_i h1
          rw [if_neg h1] at he
          split
          · rename_i h2; rw [if_pos h2] at he; cases he
          · exact ⟨rfl, by omega⟩
      rw [htb.1] at hr hcl hpure
      have ha : a.pure = (P.anc ⟨none, 0, r.take m.toNat⟩).pure := by rw [← hpure]; rfl
      refine ⟨(right_pure ha).trans (by rw [← hr]; rfl), ?_⟩
      rw [page_pure ha]
      have hkl : (r.take m.toNat).length = m.toNat := by simp; omega
      have hbody : (P.anc ⟨none, 0, r.take m.toNat⟩).body = 65 :: ((P.anc ⟨none, 0, r.take m.toNat⟩).nine ++ (m :: r.take m.toNat)) := by
        unfold AncV.body
        rw [head_nine]
        have : UInt8.ofNat (P.anc ⟨none, 0, r.take m.toNat⟩).mark.key.xs.length = m := by
          show UInt8.ofNat (r.take m.toNat).length = m
          rw [hkl]; simp
        rw [this]
        rfl
      have hpad : padTo 248 (P.anc ⟨none, 0, r.take m.toNat⟩).body = (65 :: l : List UInt8).take 248 := by
        have hq := P.nine ⟨none, 0, r.take m.toNat⟩
        rw [hmr] at hq
        have hd : r.drop m.toNat = zeros (208 - m.toNat) := by
          have := clean_zeros _ hcl
          rw [List.length_drop, hrl] at this
          exact this
        have hnl : (P.anc ⟨none, 0, r.take m.toNat⟩).nine.length = 38 := by
          have := congrArg List.length (head_nine (P.anc ⟨none, 0, r.take m.toNat⟩))
          rw [head_len] at this
          simpa using this.symm
        have hbl : (P.anc ⟨none, 0, r.take m.toNat⟩).body.length = 40 + m.toNat := by rw [hbody]; simp [hnl, hkl]; omega
        rw [padTo, hbl, List.take_of_length_le (by omega), hbody, show 248 - (40 + m.toNat) = 208 - m.toNat by omega]
        rw [show List.replicate (208 - m.toNat) (0 : UInt8) = r.drop m.toNat from hd.symm, List.cons_append, List.append_assoc, List.cons_append, List.take_append_drop, hq]
        simp
      unfold AncV.page
      rw [hpad, ← hsum, le_unle' _ 8 (by simp [hll]) (by omega), List.take_append_drop]
    · have := (Prod.mk.inj h).2
      cases this

theorem padTo_le (n : Nat) (l : List UInt8) (h : l.length ≤ n) : padTo n l = l ++ zeros (n - l.length) := by rw [padTo, List.take_of_length_le h]; rfl
theorem page_head (a : AncV) (hk : a.mark.key.xs.length ≤ 8) : a.page = 65 :: (a.nine ++ (UInt8.ofNat a.mark.key.xs.length :: (a.mark.key.xs ++ (zeros (208 - a.mark.key.xs.length) ++ le 8 (sum (padTo 248 a.body)))))) := by
  have hbl := body_len a
  unfold AncV.page
  rw [padTo_le 248 _ (by omega), hbl]
  unfold AncV.body
  rw [head_nine, show 248 - (40 + a.mark.key.xs.length) = 208 - a.mark.key.xs.length by omega]
  simp only [List.cons_append, List.append_assoc]
/-- AN ANCHOR THAT MAY BE IS DECODED AS IT IS. -/
theorem page_dec (a : AncV) (h : a.right = true) : decV 65 a.page = (a.pure, 0) := by
  have hk := right_key a h
  have hph := page_head a hk
  have hlen := page_len a
  have hpl : (padTo 248 a.body).length = 248 := padTo_len _ _
  have htake : a.page.take 248 = padTo 248 a.body := List.take_left' hpl
  have hdrop : a.page.drop 248 = le 8 (sum (padTo 248 a.body)) := List.drop_left' hpl
  have hbad : badP 65 a.page = false := by
    simp only [badP, hdrop, htake, unle_le_id 8 _ (by omega) (show _ < 256 ^ 8 from lt64 _)]
    simp
  have hnl : a.nine.length = 38 := by
    have := congrArg List.length (head_nine a)
    rw [head_len] at this
    simpa using this.symm
  have hq : (a.page.drop 1).take 247 = a.nine ++ (UInt8.ofNat a.mark.key.xs.length :: (a.mark.key.xs ++ zeros (208 - a.mark.key.xs.length))) := by
    have e : a.page.drop 1 = (a.nine ++ (UInt8.ofNat a.mark.key.xs.length :: (a.mark.key.xs ++ zeros (208 - a.mark.key.xs.length)))) ++ le 8 (sum (padTo 248 a.body)) := by
      rw [hph, List.drop_one, List.tail_cons]
      simp only [List.append_assoc, List.cons_append]
    rw [e]
    exact List.take_left' (by simp [hnl, zeros]; omega)
  unfold decV
  rw [hbad]
  simp only [cond_false]
  have hP : decD a.page = ⟨UInt8.ofNat a.mark.key.xs.length :: (a.mark.key.xs ++ zeros (208 - a.mark.key.xs.length)), [unle (le 4 a.tx.toUInt64), unle (le 2 a.size.toUInt64), 0, unle (le 4 a.count.toUInt64), unle (le 1 a.live.toUInt64), unle (le 4 a.both.toUInt64), unle (le 1 a.mark.on.toUInt64), unle (le 1 a.mark.disk.toUInt64), unle (le 4 a.mark.since.toUInt64)], 9, ptake a.root.bytes⟩ :=
    decD_pieces hq ⟨le 4 a.tx.toUInt64, le 2 a.size.toUInt64, a.root.bytes, le 4 a.count.toUInt64, le 1 a.live.toUInt64, le 4 a.both.toUInt64, le 1 a.mark.on.toUInt64, le 1 a.mark.disk.toUInt64, le 4 a.mark.since.toUInt64, _, by simp only [AncV.nine, List.append_assoc], le_length _ _, le_length _ _, bytes_len _, le_length _ _, le_length _ _, le_length _ _, le_length _ _, le_length _ _, le_length _ _⟩
  rw [hP]
  have hkn : (UInt8.ofNat a.mark.key.xs.length).toNat = a.mark.key.xs.length := by rw [UInt8.toNat_ofNat']; omega
  have htb : takeB (UInt8.ofNat a.mark.key.xs.length) (a.mark.key.xs ++ zeros (208 - a.mark.key.xs.length)) 8 = (a.mark.key.xs, zeros (208 - a.mark.key.xs.length), 0) := by
    unfold takeB
    rw [hkn, if_neg (by simp only [List.length_append]; omega), if_neg (by omega), List.take_left' rfl, List.drop_left' rfl]
  have hptr : ptake a.root.bytes = a.root := by have := bytes_ptake a.root []; rwa [List.append_nil] at this
  have hanc : (DS.anc ⟨UInt8.ofNat a.mark.key.xs.length :: (a.mark.key.xs ++ zeros (208 - a.mark.key.xs.length)), [unle (le 4 a.tx.toUInt64), unle (le 2 a.size.toUInt64), 0, unle (le 4 a.count.toUInt64), unle (le 1 a.live.toUInt64), unle (le 4 a.both.toUInt64), unle (le 1 a.mark.on.toUInt64), unle (le 1 a.mark.disk.toUInt64), unle (le 4 a.mark.since.toUInt64)], 9, ptake a.root.bytes⟩ a.mark.key.xs) = a.pure := by
    simp only [DS.anc, List.getD_cons_zero, List.getD_cons_succ, of_le4, of_le2, of_le1, hptr]
    rfl
  unfold decR
  dsimp only
  rw [htb]
  dsimp only
  rw [hanc, if_pos ⟨rfl, (right_pure (a := a.pure.withKey ⟨none, 0, a.mark.key.xs⟩) (b := a) rfl).trans h, zeros_clean _⟩]

/-- The two ways in one. -/
theorem dec_or (n : UInt8) (p : List UInt8) : (decV n p).2 = 0 ∨ (decV n p = (AncP.zero, 50)) := by
  unfold decV
  cases badP n p with
  | true => exact .inr rfl
  | false =>
    simp only [cond_false]
    unfold decR
    split
    · exact .inr rfl
    · split
      · exact .inl rfl
      · exact .inr rfl
end Go.Proofs.YtjahiohlekdhoaaDoor

namespace Go.Proofs.YtjahiohlekdhoaaDoor
open Go
set_option maxHeartbeats 4000000
set_option maxRecDepth 4000
attribute [local irreducible] SW SL SP RA Then FQ IQ LoopQ RQ AQ NX CutQ Exit.noGoto

theorem page_eq (xs ys : List UInt8) (hx : xs.length = 256) (hy : ys.length = 256) (w : World) : (Op.equalIn 10000 37 (.agg (bv xs).toArray) (.agg (bv ys).toArray)).run Tryd.prog w = .ok (xs == ys) w :=
  run_equalIn_bytes w 9998 37 5 256 (by kernel_rfl) (by kernel_rfl) (fun w => run_sizeOf (tz rfl) w) xs ys hx hy

/-- What Decode tells of a page. -/
def decP (p : List UInt8) : AncP × Int := decV (p.headD 0) p
theorem c_dec (p : List UInt8) (hp : p.length = 256) : Ctr Tryd.prog GW 16 [.agg (bv p).toArray] [] [] (retF fun v Φ' => ∃ a : AncV, v = .tuple #[a.v, vi (decP p).2] ∧ a.mark.key.ok ∧ a.pure = (decP p).1 ∧ Φ' = [a.mark.key.res]) := by
  cases p with
  | nil => cases hp
  | cons n l => exact c_decode n l hp
theorem decP_page {p : List UInt8} (hp : p.length = 256) {a : AncV} (h : decP p = (a.pure, 0)) : a.right = true ∧ a.page = p := by
  cases p with
  | nil => cases hp
  | cons n l => exact dec_page hp h
theorem page_decP (a : AncV) (h : a.right = true) : decP a.page = (a.pure, 0) := by
  have e := page_head a (right_key a h)
  have : a.page.headD 0 = 65 := by rw [e]; rfl
  unfold decP
  rw [this]
  exact page_dec a h
theorem decP_or (p : List UInt8) : (decP p).2 = 0 ∨ decP p = (AncP.zero, 50) := dec_or _ p
theorem right_tx (a : AncV) (h : a.right = true) : 1 ≤ (a.tx.toNat : Int) ∧ (a.tx.toNat : Int) ≤ 1073741824 := by
  have hf : a.fine = true := by
    unfold AncV.right at h
    split at h
    · exact (Bool.and_eq_true _ _ ▸ h).1
    · exact (Bool.and_eq_true _ _ ▸ h).1
  simp only [AncV.fine, Bool.and_eq_true, decide_eq_true_eq] at hf
  exact ⟨hf.1, hf.2.1⟩

theorem c_lawJust (p : List UInt8) (hp : p.length = 256) : Ctr Tryd.prog GW 4 [.agg (bv p).toArray] [] [] (ret1 (vb true)) := by
  have hbp : (bv p).length = 256 := by rw [bv_len]; exact hp
  refine Ctr.intro Tryd.func4 (by kernel_rfl) rfl Tryd.ntmps4 rfl rfl rfl fun w X => ?_
  refine sw_seq ?_
  refine sw_region ?_
  refine r_box (cs := bv p) (by exact rfl) rfl (by exact rfl) fun b1 => ?_
  refine r_assign (k := ?_)
  refine sl_nil ?_
  refine sp_then ?_
  refine sw_seq ?_
  refine sw_region ?_
  refine r_load_all (cs := bv p) (by exact tz rfl) (by exact rfl) (by iterate 24 (first | exact .head _ | apply List.Mem.tail | skip)) hbp (by exact rfl) ?_
  refine r_callF (c_dec p hp) (by exact rfl) (by exact rfl) (by exact rfl) (by simp) (by exact rfl) ?_
  rintro _ _ ⟨a, rfl, hok, hpure, rfl⟩
  rcases decP_or p with h0 | h50
  · have hd : decP p = (a.pure, 0) := by rw [hpure, ← h0]
    obtain ⟨hr, hpg⟩ := decP_page hp hd
    rw [h0]
    refine r_move (k := ?_)
    refine r_ext (k := ?_)
    refine r_ext (k := ?_)
    refine r_alloc (by exact z32) (cs := zeroA.cs) (by kernel_rfl) (by exact rfl) fun b3 => ?_
    refine r_store_all (cs := zeroA.cs) (vs := a.cs) (by exact tz rfl) (by exact rfl) (by exact rfl) (by iterate 24 (first | exact .hd | apply Upd.tl | skip)) rfl rfl rfl rfl ?_
    refine r_assign (k := ?_)
    refine sl_nil ?_
    refine sp_then ?_
    refine sw_seq ?_
    refine sw_seq ?_
    refine sw_region ?_
    refine r_move (k := ?_)
    refine r_neq (k := ?_)
    refine sl_nil ?_
    refine sp_then ?_
    refine swd_f (b := decide ((0 : Int) ≠ 0)) rfl rfl ?_
    refine sw_skip ?_
    refine sp_then ?_
    refine sw_seq ?_
    refine sw_region ?_
    refine r_load_all (k := ?_)
    have henc := c_encode a hok
    rw [show encV a = (p, 0) by unfold encV; rw [if_pos hr, hpg]] at henc
    refine r_call1 henc (by exact rfl) (by exact rfl) (by exact rfl) (by simp) (by exact rfl) ?_
    refine r_move (k := ?_)
    refine r_ext (k := ?_)
    refine r_ext (k := ?_)
    refine r_alloc (by exact z37) (cs := bv (zeros 256)) (by kernel_rfl) (by exact rfl) fun b5 => ?_
    refine r_store_all (cs := bv (zeros 256)) (vs := bv p) (by exact tz rfl) (by exact rfl) (by exact rfl) (by iterate 24 (first | exact .hd | apply Upd.tl | skip)) rfl hbp (bv_one _) (by rw [bv_len]; rfl) ?_
    refine r_assign (k := ?_)
    refine sl_nil ?_
    refine sp_then ?_
    refine sw_seq ?_
    refine sw_region ?_
    refine r_move (k := ?_)
    refine r_eql (k := ?_)
    refine r_move (k := ?_)
    refine r_re (t := 31) (v' := vb true) rfl rfl ?_
    refine gd_yes (k := ?_)
    refine r_load_all (cs := bv p) (by exact tz rfl) (by exact rfl) (by iterate 24 (first | exact .head _ | apply List.Mem.tail | skip)) hbp (by exact rfl) ?_
    refine gd_yes (k := ?_)
    refine r_load_all (cs := bv p) (by exact tz rfl) (by exact rfl) (by iterate 24 (first | exact .head _ | apply List.Mem.tail | skip)) hbp (by exact rfl) ?_
    refine gd_yes (k := ?_)
    refine r_eqagg (xs := (bv p).toArray) (ys := (bv p).toArray) (by exact rfl) (by exact rfl) (by kernel_rfl) (page_eq p p hp hp) (by exact rfl) ?_
    refine r_re (t := 34) (v' := vb true) rfl (by rw [beq_self_eq_true]) ?_
    refine rd_pick_t (k := ?_)
    refine r_move (k := ?_)
    refine gd_yes (k := ?_)
    refine r_load_all (k := ?_)
    refine gd_yes (k := ?_)
    have hr1 := c_right GW a
    rw [hr] at hr1
    refine r_call1 hr1 (by exact rfl) (by exact rfl) (by exact rfl) (by simp) (by exact rfl) ?_
    refine rd_pick_t (k := ?_)
    refine r_move (k := ?_)
    refine gd_yes (k := ?_)
    refine r_fieldAddr (k := ?_)
    refine gd_yes (k := ?_)
    refine r_load_one (k := ?_)
    refine gd_yes (k := ?_)
    refine r_geq (k := ?_)
    refine rd_pick_t (k := ?_)
    refine r_move (k := ?_)
    refine r_re (t := 45) (v' := vb true) rfl (by rw [decide_eq_true (right_tx a hr).1]) ?_
    refine gd_yes (k := ?_)
    refine r_call1 c_wakes (by exact rfl) (by exact rfl) (by exact rfl) (by simp) (by exact rfl) ?_
    refine rd_pick_t (k := ?_)
    refine r_assign (k := ?_)
    refine sl_nil ?_
    refine sp_then ?_
    refine sw_ret ?_
    refine sp_retv rfl rfl (.tmp rfl) rfl rfl ⟨rfl, rfl, rfl⟩ (by simp) rfl (by simp)
  · have hz : sameV a zeroA = true := (sameV_iff _ _).2 (by rw [hpure, h50]; rfl)
    have hcs := c_rsame GW a zeroA
    rw [hz] at hcs
    rw [h50]
    refine r_move (k := ?_)
    refine r_ext (k := ?_)
    refine r_ext (k := ?_)
    refine r_alloc (by exact z32) (cs := zeroA.cs) (by kernel_rfl) (by exact rfl) fun b3 => ?_
    refine r_store_all (cs := zeroA.cs) (vs := a.cs) (by exact tz rfl) (by exact rfl) (by exact rfl) (by iterate 24 (first | exact .hd | apply Upd.tl | skip)) rfl rfl rfl rfl ?_
    refine r_assign (k := ?_)
    refine sl_nil ?_
    refine sp_then ?_
    refine sw_seq ?_
    refine sw_seq ?_
    refine sw_region ?_
    refine r_move (k := ?_)
    refine r_neq (k := ?_)
    refine sl_nil ?_
    refine sp_then ?_
    refine swd_t (b := decide ((50 : Int) ≠ 0)) rfl rfl ?_
    refine sw_seq ?_
    refine sw_region ?_
    refine r_move (k := ?_)
    refine r_eql (k := ?_)
    refine r_move (k := ?_)
    refine r_re (t := 16) (v' := vb true) rfl rfl ?_
    refine gd_yes (k := ?_)
    refine r_load_all (k := ?_)
    refine gd_yes (k := ?_)
    refine r_buildP zeroA.cs (parts := []) (by exact rfl) (by kernel_rfl) (by exact rfl) ?_
    refine f_have (φ := BS.nil.res) (fun V w hw => nil_res) ?_
    refine gd_yes (k := ?_)
    refine r_call1 hcs (by exact rfl) (by exact rfl) (by exact rfl) (PhAll.all (by repeat' (first | trivial | exact .head _ | apply And.intro | apply List.Mem.tail))) (by exact rfl) ?_
    refine rd_pick_t (k := ?_)
    refine r_move (k := ?_)
    refine gd_yes (k := ?_)
    refine r_call1 c_wakes (by exact rfl) (by exact rfl) (by exact rfl) (by simp) (by exact rfl) ?_
    refine rd_pick_t (k := ?_)
    refine r_assign (k := ?_)
    refine sl_nil ?_
    refine sp_then ?_
    refine sw_ret ?_
    refine sp_then_ret ?_
    refine sp_retv rfl rfl (.tmp rfl) rfl rfl ⟨rfl, rfl, rfl⟩ (by simp) rfl (by simp)
end Go.Proofs.YtjahiohlekdhoaaDoor

namespace Go.Proofs.YtjahiohlekdhoaaDoor
open Go
set_option maxHeartbeats 4000000
set_option maxRecDepth 4000
attribute [local irreducible] SW SL SP RA Then FQ IQ LoopQ RQ AQ NX CutQ Exit.noGoto

def fitsS (a : AncP) (d : DiskP) (n : Nat) : Bool := decide ((a.tx % 4).toNat = n) && decide (a.size.toNat = d.pages.length)
/-- What a slot of a disk tells. -/
def DiskP.slot (d : DiskP) (n : Nat) : AncP := if d.off then AncP.zero else if (d.read n).2 = 0 then (if (decP (d.read n).1).2 = 0 ∧ fitsS (decP (d.read n).1).1 d n = true then (decP (d.read n).1).1 else AncP.zero) else AncP.zero
theorem read_len {d : DiskP} (h : d.fine) {n : Nat} (hn : n < d.pages.length) : (d.read n).1.length = 256 := by
  unfold DiskP.read
  split
  · rename_i p l e
    exact lasts_len (fun x hx => h.cd x (List.mem_reverse.1 hx)) (by rw [e]; exact .head _)
  · split
    · simp
    · show (d.pages.getD n []).length = 256
      rw [show d.pages.getD n [] = d.pages[n] by simp [List.getD, hn]]
      exact h.pg _ (List.getElem_mem hn)
def retA (a : AncP) : PostC := retF fun v Φ' => ∃ x : AncV, v = x.v ∧ x.mark.key.ok ∧ x.pure = a ∧ Φ' = [x.mark.key.res]
theorem c_rslot (d : DiskV) (hd : d.ok) (n : Nat) (hlt : n < 4) : Ctr Tryd.prog GW 78 [d.v, vi (n : Int)] [] [d.rp, d.rc, d.rb] (retA (d.pure.slot n)) := by
  have hn0 : 32 ≤ d.pages.xs.length := hd.f.n0
  refine Ctr.intro Tryd.func78 (by kernel_rfl) rfl Tryd.ntmps78 rfl rfl rfl fun w' X => ?_
  refine sw_seq ?_
  refine sw_region ?_
  refine r_box (cs := d.cs) (by exact rfl) rfl (by exact rfl) fun b2 => ?_
  refine r_alloc (by exact z32) (cs := zeroA.cs) (by kernel_rfl) (by exact rfl) fun b4 => ?_
  refine sl_nil ?_
  refine sp_then ?_
  refine sw_seq ?_
  refine sw_seq ?_
  refine sw_region ?_
  refine r_fieldAddr (k := ?_)
  refine r_load_one (k := ?_)
  refine sl_nil ?_
  refine sp_then ?_
  refine w_have (φ := BS.nil.res) (fun V w _ i v hv => by simp [BS.nil, bv] at hv) ?_
  have hz : zeroA.pure = AncP.zero := rfl
  cases ho : d.off
  · refine w_re (t := 10) (v' := vb false) rfl rfl ?_
    have hop : d.pure.off = false := ho
    refine swd_f (h := ?_)
    refine sw_skip ?_
    refine sp_then ?_
    refine sw_seq ?_
    refine sw_region ?_
    refine r_load_all (k := ?_)
    refine r_move (k := ?_)
    refine r_call1 (c_vread GW d hd ho n (by omega)) (by exact rfl) (by exact rfl) (by exact rfl) (PhAll.all (by repeat' (first | trivial | exact .head _ | apply And.intro | apply List.Mem.tail))) (by exact rfl) ?_
    refine r_move (k := ?_)
    refine r_ext (k := ?_)
    refine r_ext (k := ?_)
    have hl := read_len hd.f (show n < d.pure.pages.length from (by show n < d.pages.xs.length; omega))
    have hl1 : (bv (d.pure.read n).1).length = 256 := by rw [bv_len, hl]
    refine r_alloc (by exact z37) (cs := bv (List.replicate 256 0)) (by kernel_rfl) (by exact rfl) fun b5 => ?_
    refine r_store_all (cs := bv (List.replicate 256 0)) (vs := bv (d.pure.read n).1) (by exact tz rfl) (by exact rfl) (by exact rfl) (by iterate 24 (first | exact .hd | apply Upd.tl | skip)) rfl hl1 (bv_one _) rfl ?_
    refine r_assign (k := ?_)
    refine sl_nil ?_
    refine sp_then ?_
    refine sw_seq ?_
    refine sw_seq ?_
    refine sw_region ?_
    refine r_move (k := ?_)
    refine r_neq (k := ?_)
    refine sl_nil ?_
    refine sp_then ?_
    refine sw_cond rfl (fun h => ?_) (fun h => ?_)
    · have h := of_decide_eq_true h
      have hs : d.pure.slot n = AncP.zero := by unfold DiskP.slot; rw [if_neg (by rw [hop]; decide), if_neg h]
      refine sw_seq ?_
      refine sw_region ?_
      refine r_load_all (k := ?_)
      refine r_store_all (k := ?_)
      refine sl_nil ?_
      refine sp_then ?_
      refine sw_ret ?_
      refine sp_then_ret ?_
      refine sp_retv rfl rfl (.agg rfl (tz rfl) rfl (.tail _ (.head _))) rfl rfl ⟨rfl, zeroA, rfl, ⟨Nat.le_refl _, Nat.zero_le _⟩, by rw [hs, hz], rfl⟩ (by simp) rfl (PhAll.all (by repeat' (first | trivial | exact .head _ | apply And.intro | apply List.Mem.tail)))
    · have h : (d.pure.read n).2 = 0 := by
        have := of_decide_eq_false h
        exact Classical.not_not.1 this
      refine sw_skip ?_
      refine sp_then ?_
      refine sw_seq ?_
      refine sw_seq ?_
      refine sw_region ?_
      refine r_load_all (cs := bv (d.pure.read n).1) (by exact tz rfl) (by exact rfl) (by iterate 24 (first | exact .head _ | apply List.Mem.tail | skip)) hl1 (by exact rfl) ?_
      refine r_callF (c_dec _ hl) (by exact rfl) (by exact rfl) (by exact rfl) (by simp) (by exact rfl) ?_
      rintro _ _ ⟨a, rfl, ha1, ha2, rfl⟩
      refine r_move (k := ?_)
      refine r_ext (k := ?_)
      refine r_ext (k := ?_)
      refine r_alloc (by exact z32) (cs := zeroA.cs) (by kernel_rfl) (by exact rfl) fun b7 => ?_
      refine r_store_all (k := ?_)
      refine r_assign (k := ?_)
      refine sl_nil ?_
      refine sp_then ?_
      refine sw_seq ?_
      refine sw_region ?_
      refine r_move (k := ?_)
      refine r_eql (k := ?_)
      refine r_move (k := ?_)
      have hs : d.pure.slot n = if (decP (d.pure.read n).1).2 = 0 ∧ fitsS a.pure d.pure n = true then a.pure else AncP.zero := by
        unfold DiskP.slot; rw [if_neg (by rw [hop]; decide), if_pos h, ha2]
      by_cases e1 : (decP (d.pure.read n).1).2 = 0
      · refine r_re (t := 28) (v' := vb true) rfl (by rw [decide_eq_true e1]) ?_
        refine gd_yes (k := ?_)
        refine r_fieldAddr (k := ?_)
        refine gd_yes (k := ?_)
        refine r_load_one (k := ?_)
        refine gd_yes (k := ?_)
        refine r_call1 (c_slot GW a.tx) (by exact rfl) (by exact rfl) (by exact rfl) (by simp) (by exact rfl) ?_
        refine gd_yes (k := ?_)
        refine r_move (k := ?_)
        refine gd_yes (k := ?_)
        refine r_eql (k := ?_)
        refine rd_pick_t (k := ?_)
        refine r_move (k := ?_)
        by_cases e2 : ((a.tx % 4).toNat : Int) = (n : Int)
        · refine r_re (t := 35) (v' := vb true) rfl (by rw [decide_eq_true e2]) ?_
          refine gd_yes (k := ?_)
          refine r_fieldAddr (k := ?_)
          refine gd_yes (k := ?_)
          refine r_load_one (k := ?_)
          refine gd_yes (k := ?_)
          refine r_cv_16_i (k := ?_)
          refine gd_yes (k := ?_)
          refine r_fieldAddr (k := ?_)
          refine gd_yes (k := ?_)
          refine r_load_one (k := ?_)
          refine gd_yes (k := ?_)
          refine r_len (k := ?_)
          refine gd_yes (k := ?_)
          refine r_eql (k := ?_)
          refine rd_pick_t (k := ?_)
          refine sl_nil ?_
          refine sp_then ?_
          refine sw_cond rfl (fun h => ?_) (fun h => ?_)
          · have h := of_decide_eq_true h
            have hf : d.pure.slot n = a.pure := by
              rw [hs, if_pos ⟨e1, by simp only [fitsS, Bool.and_eq_true, decide_eq_true_eq]; exact ⟨Int.ofNat.inj e2, Int.ofNat.inj h⟩⟩]
            refine sw_region ?_
            refine r_load_all (k := ?_)
            refine r_store_all (k := ?_)
            refine sl_nil ?_
            refine sp_then ?_
            refine sw_seq ?_
            refine sw_region ?_
            refine r_load_all (k := ?_)
            refine r_store_all (k := ?_)
            refine sl_nil ?_
            refine sp_then ?_
            refine sw_ret ?_
            refine sp_retv rfl rfl (.agg rfl (tz rfl) rfl (.tail _ (.tail _ (.head _)))) rfl rfl ⟨rfl, a, rfl, ha1, hf.symm, rfl⟩ (by simp) rfl (PhAll.all (by repeat' (first | trivial | exact .head _ | apply And.intro | apply List.Mem.tail)))
          · have h := of_decide_eq_false h
            have hf : d.pure.slot n = AncP.zero := by
              rw [hs, if_neg fun q => ?_]
              have q2 := q.2
              simp only [fitsS, Bool.and_eq_true, decide_eq_true_eq] at q2
              exact h (congrArg Int.ofNat q2.2)
            refine sw_skip ?_
            refine sp_then ?_
            refine sw_seq ?_
            refine sw_region ?_
            refine r_load_all (k := ?_)
            refine r_store_all (k := ?_)
            refine sl_nil ?_
            refine sp_then ?_
            refine sw_ret ?_
            refine sp_retv rfl rfl (.agg rfl (tz rfl) rfl (.tail _ (.tail _ (.head _)))) rfl rfl ⟨rfl, zeroA, rfl, ⟨Nat.le_refl _, Nat.zero_le _⟩, by rw [hf, hz], rfl⟩ (by simp) rfl (PhAll.all (by repeat' (first | trivial | exact .head _ | apply And.intro | apply List.Mem.tail)))
        · refine r_re (t := 35) (v' := vb false) rfl (by rw [decide_eq_false e2]) ?_
          have hf : d.pure.slot n = AncP.zero := by
            rw [hs, if_neg fun q => ?_]
            have q2 := q.2
            simp only [fitsS, Bool.and_eq_true, decide_eq_true_eq] at q2
            exact e2 (congrArg Int.ofNat q2.1)
          refine gd_no (k := ?_)
          refine gd_no (k := ?_)
          refine gd_no (k := ?_)
          refine gd_no (k := ?_)
          refine gd_no (k := ?_)
          refine gd_no (k := ?_)
          refine gd_no (k := ?_)
          refine rd_pick_f (k := ?_)
          refine sl_nil ?_
          refine sp_then ?_
          refine swd_f (h := ?_)
          refine sw_skip ?_
          refine sp_then ?_
          refine sw_seq ?_
          refine sw_region ?_
          refine r_load_all (k := ?_)
          refine r_store_all (k := ?_)
          refine sl_nil ?_
          refine sp_then ?_
          refine sw_ret ?_
          refine sp_retv rfl rfl (.agg rfl (tz rfl) rfl (.tail _ (.tail _ (.head _)))) rfl rfl ⟨rfl, zeroA, rfl, ⟨Nat.le_refl _, Nat.zero_le _⟩, by rw [hf, hz], rfl⟩ (by simp) rfl (PhAll.all (by repeat' (first | trivial | exact .head _ | apply And.intro | apply List.Mem.tail)))
      · refine r_re (t := 28) (v' := vb false) rfl (by rw [decide_eq_false e1]) ?_
        have hf : d.pure.slot n = AncP.zero := by rw [hs, if_neg fun q => e1 q.1]
        refine gd_no (k := ?_)
        refine gd_no (k := ?_)
        refine gd_no (k := ?_)
        refine gd_no (k := ?_)
        refine gd_no (k := ?_)
        refine rd_pick_f (k := ?_)
        refine r_move (k := ?_)
        refine gd_no (k := ?_)
        refine gd_no (k := ?_)
        refine gd_no (k := ?_)
        refine gd_no (k := ?_)
        refine gd_no (k := ?_)
        refine gd_no (k := ?_)
        refine gd_no (k := ?_)
        refine rd_pick_f (k := ?_)
        refine sl_nil ?_
        refine sp_then ?_
        refine swd_f (h := ?_)
        refine sw_skip ?_
        refine sp_then ?_
        refine sw_seq ?_
        refine sw_region ?_
        refine r_load_all (k := ?_)
        refine r_store_all (k := ?_)
        refine sl_nil ?_
        refine sp_then ?_
        refine sw_ret ?_
        refine sp_retv rfl rfl (.agg rfl (tz rfl) rfl (.tail _ (.tail _ (.head _)))) rfl rfl ⟨rfl, zeroA, rfl, ⟨Nat.le_refl _, Nat.zero_le _⟩, by rw [hf, hz], rfl⟩ (by simp) rfl (PhAll.all (by repeat' (first | trivial | exact .head _ | apply And.intro | apply List.Mem.tail)))
  · refine w_re (t := 10) (v' := vb true) rfl rfl ?_
    have hs : d.pure.slot n = AncP.zero := by unfold DiskP.slot; rw [if_pos (show d.pure.off = true from ho)]
    refine swd_t (h := ?_)
    refine sw_seq ?_
    refine sw_region ?_
    refine r_load_all (k := ?_)
    refine r_store_all (k := ?_)
    refine sl_nil ?_
    refine sp_then ?_
    refine sw_ret ?_
    refine sp_then_ret ?_
    refine sp_retv rfl rfl (.agg rfl (tz rfl) rfl (.head _)) rfl rfl ⟨rfl, zeroA, rfl, ⟨Nat.le_refl _, Nat.zero_le _⟩, by rw [hs, hz], rfl⟩ (by simp) rfl (PhAll.all (by repeat' (first | trivial | exact .head _ | apply And.intro | apply List.Mem.tail)))
end Go.Proofs.YtjahiohlekdhoaaDoor

namespace Go.Proofs.YtjahiohlekdhoaaDoor
open Go
set_option maxHeartbeats 4000000
set_option maxRecDepth 4000
attribute [local irreducible] SW SL SP RA Then FQ IQ LoopQ RQ AQ NX CutQ Exit.noGoto

/-- The laws' anchors. -/
def plainA (tx : UInt32) (size : UInt16) (live : UInt8) (both : UInt32) : AncV := ⟨tx, size, PtrV.none, 0, live, both, ⟨0, 0, 0, BS.nil⟩⟩
theorem c_plain3 (G : Res) (tx : UInt32) (n : Nat) (hn : n ≤ 64) : Ctr Tryd.prog G 33 [v32 tx, vi (n : Int), v8 3] [] [] (ret1 (plainA tx (UInt16.ofNat n) 3 tx).v) := by
  refine Ctr.intro Tryd.func33 (by kernel_rfl) rfl Tryd.ntmps33 rfl rfl rfl fun w' X => ?_
  refine sw_seq ?_
  refine sw_region ?_
  refine r_alloc (by exact z32) (cs := zeroA.cs) (by kernel_rfl) (by exact rfl) fun b6 => ?_
  refine sl_nil ?_
  refine sp_then ?_
  refine sw_seq ?_
  refine sw_region ?_
  refine r_move (k := ?_)
  refine r_assign (k := ?_)
  refine sl_nil ?_
  refine sp_then ?_
  refine sw_seq ?_
  refine sw_seq ?_
  refine sw_region ?_
  refine r_move (k := ?_)
  refine r_neq (k := ?_)
  refine r_move (k := ?_)
  refine r_re (t := 11) (v' := vb false) rfl rfl ?_
  refine gd_no (k := ?_)
  refine gd_no (k := ?_)
  refine rd_pick_f (k := ?_)
  refine sl_nil ?_
  refine sp_then ?_
  refine swd_f (h := ?_)
  refine sw_skip ?_
  refine sp_then ?_
  refine sw_seq ?_
  refine sw_region ?_
  refine r_move (k := ?_)
  refine r_move (k := ?_)
  refine r_cv (r := ((UInt16.ofNat n).toNat : Int)) (by exact ti rfl) (by exact ti rfl) (by exact rfl) (by rw [IntKind.wrap_u16]; simp) (by exact rfl) ?_
  refine r_move (k := ?_)
  refine r_move (k := ?_)
  refine r_buildP (plainA tx (UInt16.ofNat n) 3 tx).cs (parts := [(0, .tmp 17), (1, .tmp 19), (4, .tmp 20), (5, .tmp 21)]) (by exact rfl) (by kernel_rfl) (by exact rfl) ?_
  refine r_store_all (k := ?_)
  refine sl_nil ?_
  refine sp_then ?_
  refine sw_ret ?_
  refine sp_retv rfl rfl (.agg rfl (tz rfl) rfl (.head _)) rfl rfl ⟨rfl, rfl, rfl⟩ (by simp) rfl (by simp)
end Go.Proofs.YtjahiohlekdhoaaDoor

namespace Go.Proofs.YtjahiohlekdhoaaDoor
open Go
set_option maxHeartbeats 4000000
set_option maxRecDepth 4000
attribute [local irreducible] SW SL SP RA Then FQ IQ LoopQ RQ AQ NX CutQ Exit.noGoto

def keysR (A : List AncV) : Res := Res.all A fun a => a.mark.key.res
theorem keys_set {A : List AncV} {a : AncV} {i : Nat} {V : Av} {w : World} (h : (keysR A).p V w) (ha : a.mark.key.res.p V w) : (keysR (A.set i a)).p V w := fun x hx => by
  rcases List.mem_or_eq_of_mem_set hx with h' | h'
  · exact h x h'
  · rw [h']; exact ha
theorem ancsV_set (A : List AncV) (i : Nat) (a : AncV) (h : i < A.length) : splice (ancsV A) (i * 14) a.cs = ancsV (A.set i a) := by
  have e1 : (ancsV A).take (i * 14) = ancsV (A.take i) := by
    have h1 : ancsV A = ancsV (A.take i) ++ ancsV (A.drop i) := by rw [ancsV, ancsV, ancsV, ← List.flatMap_append, List.take_append_drop]
    have h2 : (ancsV (A.take i)).length = i * 14 := by rw [ancsV_len, List.length_take, Nat.min_eq_left (by omega)]
    rw [h1, ← h2, List.take_left]
  have e2 : (ancsV A).drop (i * 14 + a.cs.length) = ancsV (A.drop (i + 1)) := by
    have : i * 14 + a.cs.length = (i + 1) * 14 := by simp [AncV.cs]; omega
    rw [this, ancsV_drop]
  rw [splice, e1, e2, List.set_eq_take_append_cons_drop, if_pos h]
  simp [ancsV, List.flatMap_append]
end Go.Proofs.YtjahiohlekdhoaaDoor

namespace Go.Proofs.YtjahiohlekdhoaaDoor
open Go
set_option maxHeartbeats 4000000
set_option maxRecDepth 4000
attribute [local irreducible] SW SL SP RA Then FQ IQ LoopQ RQ AQ NX CutQ Exit.noGoto

theorem ancsV_one (A : List AncV) : (ancsV A).all Value.oneCell' = true := fm_one A fun _ _ => rfl
/-- What a pair's slots tell, by places. -/
def PairV.slotAt (p : PairV) (i k : Nat) : AncP := if i = 0 then p.d0.pure.slot k else p.d1.pure.slot k
theorem c_slots (p : PairV) (h0 : p.d0.ok) (h1 : p.d1.ok) : Ctr Tryd.prog GW 38 [p.v] [] p.ress (retF fun v Φ' => ∃ A : List AncV, v = .agg (ancsV A).toArray ∧ A.map AncV.pure = (List.range 4).map p.d0.pure.slot ++ (List.range 4).map p.d1.pure.slot ∧ (∀ a ∈ A, a.mark.key.ok) ∧ Φ' = [keysR A]) := by
  refine Ctr.intro Tryd.func38 (by kernel_rfl) rfl Tryd.ntmps38 rfl rfl rfl fun w' X => ?_
  refine sw_seq ?_
  refine sw_region ?_
  refine r_box (cs := p.cs) (by exact rfl) rfl (by exact rfl) fun b1 => ?_
  refine r_alloc (v := .agg (ancsV (List.replicate 8 zeroA)).toArray) (by kernel_rfl) (cs := ancsV (List.replicate 8 zeroA)) rfl (by exact rfl) fun b2 => ?_
  refine sl_nil ?_
  refine sp_then ?_
  refine sw_seq ?_
  refine sw_seq ?_
  refine sw_region ?_
  refine r_call1 (c_places GW) (by exact rfl) (by exact rfl) (by exact rfl) (by simp) (by exact rfl) ?_
  refine sl_nil ?_
  refine sp_then ?_
  refine sw_block ?_
  refine w_have (φ := keysR (List.replicate 8 zeroA)) (fun V w _ x hx i v hv => by rw [(List.mem_replicate.1 hx).2] at hv; simp [zeroA, AncP.withKey, BS.nil, bv] at hv) ?_
  refine w_have (φ := Res.pure (((List.replicate 8 zeroA).map AncV.pure = List.replicate 8 AncP.zero ∧ (List.replicate 8 zeroA).length = 8) ∧ ∀ a ∈ List.replicate 8 zeroA, a.mark.key.ok)) (fun V w _ => ⟨⟨rfl, rfl⟩, fun a ha => by rw [(List.mem_replicate.1 ha).2]; exact ⟨Nat.le_refl _, Nat.zero_le _⟩⟩) ?_
  refine sw_rangeA (ι := List AncV) (ps := [5]) (Bp := []) (i_places GW) (fun _ A => [.box b2 (ancsV A) 73, .box b1 p.cs 63]) (fun s A => Res.pure ((A.map AncV.pure = s ∧ A.length = 8) ∧ ∀ a ∈ A, a.mark.key.ok) :: keysR A :: p.ress) (fun s x => s.set (x.1 * 4 + x.2) (p.slotAt x.1 x.2)) (fun _ _ => True) (List.replicate 8 AncP.zero) (List.replicate 8 zeroA) rfl rfl rfl (adm_true _ _) (by simp) (fun φ h => h) (fun _ _ => rfl) rfl (fun x vs V w h => by obtain ⟨_, rfl⟩ := h; rfl) ?_ ?_
  · rintro l mk rec w X U K s A x vs hrec _ ht
    refine w_pure ?_
    rintro ⟨⟨hx1, hx2⟩, rfl⟩
    refine w_pure ?_
    rintro ⟨⟨hA, hA8⟩, hko⟩
    refine sw_region ?_
    refine r_alloc (by exact z112) (cs := [vi 0, vi 0]) rfl (by exact rfl) fun b3 => ?_
    refine r_store_all (k := ?_)
    refine sl_nil ?_
    refine sp_asgU hrec rfl (.tl .hd) ?_
    obtain ⟨i, k⟩ := x
    dsimp only at hx1 hx2 ⊢
    obtain rfl | rfl : i = 0 ∨ i = 1 := by omega
    · refine sw_block ?_
      
      refine sw_draw [(none, .box b3 [vi ((0 : Nat) : Int), vi (k : Int)] 112), (none, .box b1 p.cs 63)] [] [0, 1, 2, 3, 4, 5, 6, 7, 8, 9, 10, 11, 12, 13, 14] mix (by kernel_rfl) rfl ?_
      refine ra_first 0 [] [1, 2, 3, 4, 5, 6, 7, 8, 9, 10, 11, 12, 13, 14] (hq := by exact q_fieldAddr) (k := ?_)
      refine ra_first 1 [(none, .box b3 [vi ((0 : Nat) : Int), vi (k : Int)] 112), (none, .box b1 p.cs 63)] [2, 3, 4, 5, 6, 7, 8, 9, 10, 11, 12, 13, 14] (hq := by first | exact q_load_one | exact q_load_all | exact q_load_fr1 | exact q_load_fr) (k := ?_)
      refine ra_first 2 [] [3, 4, 5, 6, 7, 8, 9, 10, 11, 12, 13, 14] (hq := by exact q_fieldAddr) (k := ?_)
      refine ra_first 3 [(none, .box b3 [vi ((0 : Nat) : Int), vi (k : Int)] 112), (none, .box b1 p.cs 63)] [4, 5, 6, 7, 8, 9, 10, 11, 12, 13, 14] (hq := by first | exact q_load_one | exact q_load_all | exact q_load_fr1 | exact q_load_fr) (k := ?_)
      refine ra_first 4 [] [5, 6, 7, 8, 9, 10, 11, 12, 13, 14] (hq := by exact q_fieldAddr) (k := ?_)
      refine ra_first 5 [(none, .box b3 [vi ((0 : Nat) : Int), vi (k : Int)] 112), (none, .box b1 p.cs 63)] [6, 7, 8, 9, 10, 11, 12, 13, 14] (hq := by first | exact q_load_one | exact q_load_all | exact q_load_fr1 | exact q_load_fr) (k := ?_)
      refine ra_first 6 [] [7, 8, 9, 10, 11, 12, 13, 14] (hq := by exact q_fieldAddr) (k := ?_)
      refine ra_first 7 [] [8, 9, 10, 11, 12, 13, 14] (hq := by exact q_idx_arr (i := 0) (m := 0) (by exact ta rfl) (by exact rfl) (by exact rfl) (by decide) (by decide) rfl) (k := ?_)
      refine ra_first 8 [(none, .box b3 [vi ((0 : Nat) : Int), vi (k : Int)] 112), (none, .box b1 p.cs 63)] [9, 10, 11, 12, 13, 14] (hq := by exact q_load_agg (vs := p.d0.cs) (by exact tz rfl) (by exact rfl) (.tail _ (.head _)) rfl rfl) (k := ?_)
      refine ra_first 9 [] [10, 11, 12, 13, 14] (hq := by exact q_fieldAddr) (k := ?_)
      refine ra_first 10 [(none, .box b3 [vi ((0 : Nat) : Int), vi (k : Int)] 112), (none, .box b1 p.cs 63)] [11, 12, 13, 14] (hq := by first | exact q_load_one | exact q_load_all | exact q_load_fr1 | exact q_load_fr) (k := ?_)
      refine ra_first 12 [] [11, 13, 14] (hq := by exact q_idx_arr (i := 0) (m := 0) (by exact ta rfl) (by exact rfl) (by exact rfl) (by decide) (by decide) rfl) (k := ?_)
      refine ra1 (i := 11) [13, 14] (h := ?_)
      refine r_callF (c_rslot p.d0 h0 k hx2) (by exact rfl) (by exact rfl) (by exact rfl) (PhAll.all (by repeat' (first | trivial | exact .head _ | apply And.intro | apply List.Mem.tail))) (by exact rfl) ?_
      rintro _ _ ⟨a, rfl, ha1, ha2, rfl⟩
      refine sl_nil ?_
      refine sp_nx (k := ?_)
      refine ra1 (i := 13) [14] (h := ?_)
      refine r_idx_arr (i := k) (m := (k : Int)) (by exact ta rfl) (by exact rfl) (by exact rfl) (by omega) (by omega) (Int.toNat_natCast k) (by exact rfl) ?_
      refine sl_nil ?_
      refine sp_nx (k := ?_)
      refine ra1 (i := 14) [] (h := ?_)
      refine r_store (vs := a.cs) (cs' := ancsV (A.set (0 * 4 + k) a)) (by exact tz rfl) (by exact rfl) (by exact rfl) (by iterate 24 (first | exact .hd | apply Upd.tl | skip)) rfl rfl rfl (by rw [ancsV_len, hA8]; simp [AncV.cs]; omega) (by rw [← ancsV_set A (0 * 4 + k) a (by omega)]; congr 1; omega) ?_
      refine sl_nil ?_
      refine sp_nx (k := ?_)
      refine ra_done ?_
      refine sp_block ?_
      refine sp_of_sl (fun h => f_have (φ := keysR (A.set (0 * 4 + k) a)) (fun V w hw => keys_set (hw _ (.tail _ (.head _))) (hw _ (.head _))) h) ?_
      refine sp_of_sl (fun h => f_have (φ := Res.pure (((A.set (0 * 4 + k) a).map AncV.pure = s.set (0 * 4 + k) (p.slotAt 0 k) ∧ (A.set (0 * 4 + k) a).length = 8) ∧ ∀ a' ∈ A.set (0 * 4 + k) a, a'.mark.key.ok)) (fun V w hw => ⟨⟨by rw [List.map_set, hA, ha2]; rfl, by simpa using hA8⟩, fun a' h' => (List.mem_or_eq_of_mem_set h').elim (hko a') fun e => e ▸ ha1⟩) h) ?_
      exact sp_round (ι := List AncV) (i' := A.set (0 * 4 + k) a) ht hrec rfl (.cons _ (List.Sublist.refl _)) (fun φ hφ => by
        cases hφ with
        | head => exact .head _
        | tail _ hφ => cases hφ with
          | head => exact .tail _ (.head _)
          | tail _ hφ => exact .tail _ (.tail _ (.tail _ (.tail _ hφ))))
    · refine sw_block ?_
      
      refine sw_draw [(none, .box b3 [vi ((1 : Nat) : Int), vi (k : Int)] 112), (none, .box b1 p.cs 63)] [] [0, 1, 2, 3, 4, 5, 6, 7, 8, 9, 10, 11, 12, 13, 14] mix (by kernel_rfl) rfl ?_
      refine ra_first 0 [] [1, 2, 3, 4, 5, 6, 7, 8, 9, 10, 11, 12, 13, 14] (hq := by exact q_fieldAddr) (k := ?_)
      refine ra_first 1 [(none, .box b3 [vi ((1 : Nat) : Int), vi (k : Int)] 112), (none, .box b1 p.cs 63)] [2, 3, 4, 5, 6, 7, 8, 9, 10, 11, 12, 13, 14] (hq := by first | exact q_load_one | exact q_load_all | exact q_load_fr1 | exact q_load_fr) (k := ?_)
      refine ra_first 2 [] [3, 4, 5, 6, 7, 8, 9, 10, 11, 12, 13, 14] (hq := by exact q_fieldAddr) (k := ?_)
      refine ra_first 3 [(none, .box b3 [vi ((1 : Nat) : Int), vi (k : Int)] 112), (none, .box b1 p.cs 63)] [4, 5, 6, 7, 8, 9, 10, 11, 12, 13, 14] (hq := by first | exact q_load_one | exact q_load_all | exact q_load_fr1 | exact q_load_fr) (k := ?_)
      refine ra_first 4 [] [5, 6, 7, 8, 9, 10, 11, 12, 13, 14] (hq := by exact q_fieldAddr) (k := ?_)
      refine ra_first 5 [(none, .box b3 [vi ((1 : Nat) : Int), vi (k : Int)] 112), (none, .box b1 p.cs 63)] [6, 7, 8, 9, 10, 11, 12, 13, 14] (hq := by first | exact q_load_one | exact q_load_all | exact q_load_fr1 | exact q_load_fr) (k := ?_)
      refine ra_first 6 [] [7, 8, 9, 10, 11, 12, 13, 14] (hq := by exact q_fieldAddr) (k := ?_)
      refine ra_first 7 [] [8, 9, 10, 11, 12, 13, 14] (hq := by exact q_idx_arr (i := 1) (m := 1) (by exact ta rfl) (by exact rfl) (by exact rfl) (by decide) (by decide) rfl) (k := ?_)
      refine ra_first 8 [(none, .box b3 [vi ((1 : Nat) : Int), vi (k : Int)] 112), (none, .box b1 p.cs 63)] [9, 10, 11, 12, 13, 14] (hq := by exact q_load_agg (vs := p.d1.cs) (by exact tz rfl) (by exact rfl) (.tail _ (.head _)) rfl rfl) (k := ?_)
      refine ra_first 9 [] [10, 11, 12, 13, 14] (hq := by exact q_fieldAddr) (k := ?_)
      refine ra_first 10 [(none, .box b3 [vi ((1 : Nat) : Int), vi (k : Int)] 112), (none, .box b1 p.cs 63)] [11, 12, 13, 14] (hq := by first | exact q_load_one | exact q_load_all | exact q_load_fr1 | exact q_load_fr) (k := ?_)
      refine ra_first 12 [] [11, 13, 14] (hq := by exact q_idx_arr (i := 1) (m := 1) (by exact ta rfl) (by exact rfl) (by exact rfl) (by decide) (by decide) rfl) (k := ?_)
      refine ra1 (i := 11) [13, 14] (h := ?_)
      refine r_callF (c_rslot p.d1 h1 k hx2) (by exact rfl) (by exact rfl) (by exact rfl) (PhAll.all (by repeat' (first | trivial | exact .head _ | apply And.intro | apply List.Mem.tail))) (by exact rfl) ?_
      rintro _ _ ⟨a, rfl, ha1, ha2, rfl⟩
      refine sl_nil ?_
      refine sp_nx (k := ?_)
      refine ra1 (i := 13) [14] (h := ?_)
      refine r_idx_arr (i := k) (m := (k : Int)) (by exact ta rfl) (by exact rfl) (by exact rfl) (by omega) (by omega) (Int.toNat_natCast k) (by exact rfl) ?_
      refine sl_nil ?_
      refine sp_nx (k := ?_)
      refine ra1 (i := 14) [] (h := ?_)
      refine r_store (vs := a.cs) (cs' := ancsV (A.set (1 * 4 + k) a)) (by exact tz rfl) (by exact rfl) (by exact rfl) (by iterate 24 (first | exact .hd | apply Upd.tl | skip)) rfl rfl rfl (by rw [ancsV_len, hA8]; simp [AncV.cs]; omega) (by rw [← ancsV_set A (1 * 4 + k) a (by omega)]; congr 1; omega) ?_
      refine sl_nil ?_
      refine sp_nx (k := ?_)
      refine ra_done ?_
      refine sp_block ?_
      refine sp_of_sl (fun h => f_have (φ := keysR (A.set (1 * 4 + k) a)) (fun V w hw => keys_set (hw _ (.tail _ (.head _))) (hw _ (.head _))) h) ?_
      refine sp_of_sl (fun h => f_have (φ := Res.pure (((A.set (1 * 4 + k) a).map AncV.pure = s.set (1 * 4 + k) (p.slotAt 1 k) ∧ (A.set (1 * 4 + k) a).length = 8) ∧ ∀ a' ∈ A.set (1 * 4 + k) a, a'.mark.key.ok)) (fun V w hw => ⟨⟨by rw [List.map_set, hA, ha2]; rfl, by simpa using hA8⟩, fun a' h' => (List.mem_or_eq_of_mem_set h').elim (hko a') fun e => e ▸ ha1⟩) h) ?_
      exact sp_round (ι := List AncV) (i' := A.set (1 * 4 + k) a) ht hrec rfl (.cons _ (List.Sublist.refl _)) (fun φ hφ => by
        cases hφ with
        | head => exact .head _
        | tail _ hφ => cases hφ with
          | head => exact .tail _ (.head _)
          | tail _ hφ => exact .tail _ (.tail _ (.tail _ (.tail _ hφ))))
  · rintro A mk
    refine sp_block ?_
    refine sp_then ?_
    refine w_pure ?_
    rintro ⟨⟨hA, hA8⟩, hko⟩
    have hl : (ancsV A).length = 112 := by rw [ancsV_len, hA8]
    refine sw_seq ?_
    refine sw_region ?_
    refine r_load_all (cs := ancsV A) (by exact tz rfl) (by exact rfl) (by iterate 24 (first | exact .head _ | apply List.Mem.tail | skip)) hl (by exact rfl) ?_
    refine r_store_all (cs := ancsV A) (vs := ancsV A) (by exact tz rfl) (by exact rfl) (by exact rfl) (by iterate 24 (first | exact .hd | apply Upd.tl | skip)) rfl hl (ancsV_one A) hl ?_
    refine sl_nil ?_
    refine sp_then ?_
    refine sw_ret ?_
    refine sp_retv rfl rfl (.agg rfl (tz rfl) hl (.tail _ (.head _))) rfl rfl ⟨rfl, A, rfl, hA.trans rfl, hko, rfl⟩ (List.nil_sublist _) rfl (by simp)
end Go.Proofs.YtjahiohlekdhoaaDoor

namespace Go.Proofs.YtjahiohlekdhoaaDoor
open Go
set_option maxHeartbeats 4000000
set_option maxRecDepth 4000
attribute [local irreducible] SW SL SP RA Then FQ IQ LoopQ RQ AQ NX CutQ Exit.noGoto

section
variable {c : Ctx} {ρ : List (Nat × Value)} {B B' B0 Br : List Own} {Φ Φ' : List Res} {Ψ : List JR} {ops : Array Oper} {rest : List Oper} {Q : Post} {d ty t : Nat} {ps : String} {af : Array Edge} {x y z : Operand} {v u : Value} {xt yt : TypeId} {m n : Int} {kk : IntKind}

theorem r_shr8 {a : UInt8} {k' : IntKind} {n : Nat} (hx : ev ρ x = some (v8 a) := by exact rfl) (hy : ev ρ y = some (.int k' (n : Int)) := by exact rfl) (hn : Nat.blt n 8 = true := by exact rfl) (hb : Nat.blt d c.nt = true := by exact rfl) (k : SL c ((d, v8 (a >>> UInt8.ofNat n)) :: ρ) B Φ Ψ ops rest Q) : SL c ρ B Φ Ψ ops (⟨some d, .binOp .shr xt x y yt, ty, ps, af, none⟩ :: rest) Q :=
  r_bin hx hy hb (fun w => by
    have hn' : n < 8 := by simpa using hn
    have e : ((a >>> UInt8.ofNat n).toNat : Int) = (a.toNat : Int).fdiv (2 ^ n) := by
      have : ((2 : Int) ^ n) = ((2 ^ n : Nat) : Int) := by simp
      rw [this, fdiv_nat, UInt8.toNat_shiftRight, Nat.shiftRight_eq_div_pow]
      simp
      congr 2; omega
    have h0 : ¬ ((n : Int) < 0) := by omega
    have h1 : min n 64 = n := by omega
    simp [eqGuard, binOp, Op.shift, IntKind.bits, h1, -UInt8.toNat_shiftRight, -UInt8.toNat_shiftLeft]
    rw [e, Int.fdiv_eq_ediv_of_nonneg _ (Int.le_of_lt (Int.pow_pos (by decide)))]) k
end
/-- Whether an anchor has a disk in its Live. -/
def hasL (live : UInt8) (k : Bool) : Bool := bif k then decide (((live >>> UInt8.ofNat 1 &&& UInt8.ofNat 1).toNat : Int) = 1) else decide (((live >>> UInt8.ofNat 0 &&& UInt8.ofNat 1).toNat : Int) = 1)
theorem c_has (G : Res) (a : AncV) (k : Bool) : Ctr Tryd.prog G 75 [a.v, vi (ib k)] [] [] (ret1 (vb (hasL a.live k))) := by
  refine Ctr.intro Tryd.func75 (by kernel_rfl) rfl Tryd.ntmps75 rfl rfl rfl fun w' X => ?_
  refine sw_seq ?_
  refine sw_region ?_
  refine r_box (k := fun bx => ?_)
  refine r_assign (k := ?_)
  refine sl_nil ?_
  refine sp_then ?_
  refine sw_seq ?_
  refine sw_region ?_
  refine r_fieldAddr (k := ?_)
  refine r_load_one (k := ?_)
  refine r_move (k := ?_)
  cases k
  · refine r_shr8 (n := 0) (by exact rfl) (by exact rfl) (by exact rfl) (by exact rfl) ?_
    refine r_and8c (k := ?_)
    refine r_eql (k := ?_)
    refine r_assign (k := ?_)
    refine sl_nil ?_
    refine sp_then ?_
    refine sw_ret ?_
    refine sp_retv rfl rfl (.tmp rfl) rfl rfl ⟨rfl, rfl, rfl⟩ (by simp) rfl (by simp)
  · refine r_shr8 (n := 1) (by exact rfl) (by exact rfl) (by exact rfl) (by exact rfl) ?_
    refine r_and8c (k := ?_)
    refine r_eql (k := ?_)
    refine r_assign (k := ?_)
    refine sl_nil ?_
    refine sp_then ?_
    refine sw_ret ?_
    refine sp_retv rfl rfl (.tmp rfl) rfl rfl ⟨rfl, rfl, rfl⟩ (by simp) rfl (by simp)
end Go.Proofs.YtjahiohlekdhoaaDoor
