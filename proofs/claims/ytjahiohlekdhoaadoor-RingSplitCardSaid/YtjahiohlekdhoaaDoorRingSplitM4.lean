/-
  The walks of package crc.
  The walks of package pack, the rest: bytes put and taken.
  The walks of package anchor, the small ones.
  The walks of package anchor: its numbers, the newest one.
  The walk of anchor.Decode.
  The walk of anchor.Encode.
-/
import Derived.Test.YtjahiohlekdhoaaDoorRingSplitM3
namespace Go.Proofs.YtjahiohlekdhoaaDoor
open Go
set_option maxHeartbeats 4000000
set_option maxRecDepth 4000
attribute [local irreducible] SW SL SP RA Then FQ IQ LoopQ RQ AQ NX CutQ Exit.noGoto

def rk (c : UInt64) : UInt64 := (c >>> UInt64.ofNat 1) ^^^ (14514072000185962306 * (c &&& 1))
def rkN : Nat → UInt64 → UInt64
  | 0, c => c
  | n + 1, c => rk (rkN n c)
def reckon (b : UInt8) : UInt64 := rkN 8 b.toUInt64

theorem c_reckon (G : Res) (b : UInt8) : Ctr Tryd.prog G 111 [v8 b] [] [] (ret1 (v64 (reckon b))) := by
  refine Ctr.intro Tryd.func111 (by kernel_rfl) rfl Tryd.ntmps111 rfl rfl rfl fun w X => ?_
  refine sw_seq ?_
  refine sw_region ?_
  refine r_assign (k := ?_)
  refine sl_nil ?_
  refine sp_then ?_
  refine sw_seq ?_
  refine sw_region ?_
  refine r_move (k := ?_)
  refine r_cv_8_64 (k := ?_)
  refine r_assign (k := ?_)
  refine sl_nil ?_
  refine sp_then ?_
  refine sw_seq ?_
  refine sw_seq ?_
  refine sw_region ?_
  refine r_move (k := ?_)
  refine sl_nil ?_
  refine sp_then ?_
  refine sw_block ?_
  refine sw_loop (ι := { i : Nat // i ≤ 8 }) (fun i => [(3, v64 (rkN i.1 b.toUInt64)), (6, vi (i.1 : Int))]) (fun _ => []) (fun _ => []) (fun _ => []) (fun i => 8 - i.1) ⟨0, by omega⟩ ?_ fun i => ?_
  · exact Ent.mk' (by repeat' (first | trivial | exact rfl | apply And.intro)) (by repeat' (first | trivial | exact .head _ | apply And.intro | apply List.Mem.tail))
  obtain ⟨i, hi⟩ := i
  dsimp only
  refine sw_seq ?_
  refine sw_region ?_
  refine r_lss (k := ?_)
  refine sl_nil ?_
  refine sp_then ?_
  refine sw_seq ?_
  refine sw_cond rfl (fun h => ?_) (fun h => ?_)
  · have h := of_decide_eq_true h
    refine sw_skip ?_
    refine sp_then ?_
    refine sw_seq ?_
    refine sw_block ?_
    refine sw_region ?_
    refine r_move (k := ?_)
    refine r_shr64 (k := ?_)
    refine r_move (k := ?_)
    refine r_and64c (k := ?_)
    refine r_mul64c (k := ?_)
    refine r_xor64 (k := ?_)
    refine r_assign (k := ?_)
    refine sl_nil ?_
    refine sp_block ?_
    refine sp_then ?_
    refine sw_region ?_
    refine r_add64 (k := ?_)
    refine r_move (k := ?_)
    refine sl_nil ?_
    refine sp_loop (ι := { i : Nat // i ≤ 8 }) ⟨i + 1, by omega⟩ ?_ ?_
    · dsimp only; omega
    · exact Ent.mk' (by repeat' (first | trivial | exact rfl | apply And.intro)) (by repeat' (first | trivial | exact .head _ | apply And.intro | apply List.Mem.tail))
  · have h := of_decide_eq_false h
    obtain rfl : i = 8 := by omega
    refine sw_exit ?_
    refine sp_then_exit ?_
    refine sp_loop_exit ?_
    refine sp_block_exit ?_
    refine sp_then ?_
    refine sw_seq ?_
    refine sw_region ?_
    refine r_move (k := ?_)
    refine r_assign (k := ?_)
    refine sl_nil ?_
    refine sp_then ?_
    refine sw_ret ?_
    refine sp_retv rfl rfl (.tmp rfl) rfl rfl ⟨rfl, rfl, rfl⟩ (by simp) rfl (by simp)

theorem c_step (G : Res) (x : UInt64) (b : UInt8) : Ctr Tryd.prog G 87 [v64 x, v8 b] [] [] (ret1 (v64 (reckon (x.toUInt8 ^^^ b) ^^^ (x >>> 8)))) := by
  refine Ctr.intro Tryd.func87 (by kernel_rfl) rfl Tryd.ntmps87 rfl rfl rfl fun w X => ?_
  refine sw_seq ?_
  refine sw_region ?_
  refine r_assign (k := ?_)
  refine sl_nil ?_
  refine sp_then ?_
  refine sw_seq ?_
  refine sw_region ?_
  refine r_move (k := ?_)
  refine r_cv_64_8 (k := ?_)
  refine r_move (k := ?_)
  refine r_xor8 (k := ?_)
  refine r_call1 (c_reckon _ _) rfl rfl rfl (by simp) rfl ?_
  refine r_move (k := ?_)
  refine r_shr64 (k := ?_)
  refine r_xor64 (k := ?_)
  refine r_assign (k := ?_)
  refine sl_nil ?_
  refine sp_then ?_
  refine sw_ret ?_
  refine sp_retv rfl rfl (.tmp rfl) rfl rfl ⟨rfl, rfl, rfl⟩ (by simp) rfl (by simp)

/-! ### bytes -/
def partsV (ps : List BS) : List Value := ps.map BS.v
def flat (ps : List BS) : List UInt8 := ps.flatMap BS.xs
theorem flat_drop (ps : List BS) (i : Nat) (h : i < ps.length) : flat (ps.drop i) = ps[i].xs ++ flat (ps.drop (i + 1)) := by
  rw [drop_cons ps i h]; rfl

theorem i_bytes (G : Res) (b : Nat) (ba : Option Addr) (cap : Nat) (ps : List BS) (hok : ∀ p ∈ ps, p.ok) (hn : ps.length ≤ maxLen) : ICtr Tryd.prog G 110 [.pointer (some ⟨b, 0, none⟩)] [] [Res.mem (some ⟨b, 0, none⟩) [.slice ba ps.length cap], Res.mem ba (partsV ps), Res.all ps BS.res] bElt (flat ps) := by
  have hn' : ps.length ≤ 9223372036854775807 := hn
  refine ICtr.intro Tryd.func110 (by kernel_rfl) rfl Tryd.ntmps110 rfl rfl (fun _ => rfl) fun σ J Y go A l s0 w X M hgo hA hY => ?_
  refine sw_seq ?_
  refine sw_region ?_
  refine r_load_fr1 (k := ?_)
  refine r_len (k := ?_)
  refine r_move (k := ?_)
  refine sl_nil ?_
  refine sp_then ?_
  refine sw_block ?_
  refine sw_loop (ι := { p : Nat × σ // p.1 ≤ ps.length ∧ At Y go A s0 (flat ps) p.2 (flat (ps.drop p.1)) })
    (fun p => [(0, yv l), (7, .slice ba ps.length cap), (8, vi (ps.length : Int)), (9, vi (p.1.1 : Int))]) (fun _ => []) (fun _ => [Res.mem ba (partsV ps), Res.all ps BS.res]) (fun p => [J p.1.2]) (fun p => ps.length - p.1.1) ⟨(0, s0), by simp, .start hgo hA⟩ ?_ fun i => ?_
  · exact Ent.mk' (by repeat' (first | trivial | exact rfl | apply And.intro)) (by repeat' (first | trivial | exact .head _ | apply And.intro | apply List.Mem.tail))
  obtain ⟨⟨i, s⟩, hi, hr⟩ := i
  dsimp only at hi hr ⊢
  refine sw_seq ?_
  refine sw_region ?_
  refine r_lss (k := ?_)
  refine sl_nil ?_
  refine sp_then ?_
  refine sw_seq ?_
  refine sw_cond rfl (fun h => ?_) (fun h => ?_)
  · have h := of_decide_eq_true h
    have hi' : i < ps.length := by omega
    have hk := (hok _ (List.getElem_mem hi'))
    have hkl : ps[i].xs.length ≤ 9223372036854775807 := Nat.le_trans hk.1 hk.2
    rw [flat_drop ps i hi'] at hr
    refine sw_skip ?_
    refine sp_then ?_
    refine sw_seq ?_
    refine sw_block ?_
    refine sw_seq ?_
    refine sw_region ?_
    refine r_idx (tl rfl) rfl rfl (by omega) (by omega) (by iterate 24 (first | exact .head _ | apply List.Mem.tail | skip)) (by simp [partsV]) rfl (Int.toNat_natCast _) rfl ?_
    refine r_load_mem1 (v := ps[i].v) (tz rfl) rfl (by iterate 24 (first | exact .head _ | apply List.Mem.tail | skip)) (by simp [partsV, hi']) rfl ?_
    refine f_have (φ := ps[i].res) (fun V w h => h _ (.tail _ (.head _)) _ (List.getElem_mem hi')) ?_
    refine r_assign (k := ?_)
    refine sl_nil ?_
    refine sp_then ?_
    refine sw_seq ?_
    refine sw_region ?_
    refine r_move (k := ?_)
    refine r_len (k := ?_)
    refine r_move (k := ?_)
    refine sl_nil ?_
    refine sp_then ?_
    refine sw_block ?_
    refine sw_loop (ι := { p : Nat × σ // p.1 ≤ ps[i].xs.length ∧ At Y go A s0 (flat ps) p.2 (ps[i].xs.drop p.1 ++ flat (ps.drop (i + 1))) })
      (fun p => [(0, yv l), (7, .slice ba ps.length cap), (8, vi (ps.length : Int)), (9, vi (i : Int)), (13, ps[i].v), (14, vi (ps[i].xs.length : Int)), (15, vi (p.1.1 : Int))]) (fun _ => []) (fun _ => [ps[i].res, Res.mem ba (partsV ps), Res.all ps BS.res]) (fun p => [J p.1.2]) (fun p => ps[i].xs.length - p.1.1) ⟨(0, s), by simp, hr⟩ ?_ fun j => ?_
    · exact Ent.mk' (by repeat' (first | trivial | exact rfl | apply And.intro)) (by repeat' (first | trivial | exact .head _ | apply And.intro | apply List.Mem.tail))
    obtain ⟨⟨j, s⟩, hj, hr⟩ := j
    dsimp only at hj hr ⊢
    refine sw_seq ?_
    refine sw_region ?_
    refine r_lss (k := ?_)
    refine sl_nil ?_
    refine sp_then ?_
    refine sw_seq ?_
    refine sw_cond rfl (fun h => ?_) (fun h => ?_)
    · have h := of_decide_eq_true h
      have hj' : j < ps[i].xs.length := by omega
      rw [drop_cons _ j hj', List.cons_append] at hr
      refine sw_skip ?_
      refine sp_then ?_
      refine sw_seq ?_
      refine sw_block ?_
      refine sw_seq ?_
      refine sw_region ?_
      refine r_idx (k := ?_)
      refine r_load_mem1 (v := v8 ps[i].xs[j]) (tz rfl) rfl (by iterate 24 (first | exact .head _ | apply List.Mem.tail | skip)) (by rw [Nat.mul_one]; exact bv_get _ _ hj') rfl ?_
      refine r_assign (k := ?_)
      refine sl_nil ?_
      refine sp_then ?_
      refine sw_seq ?_
      refine sw_region ?_
      refine r_move (k := ?_)
      refine r_move (k := ?_)
      refine r_yield hY hr.go' hr.give rfl rfl (el := ps[i].xs[j]) (fun _ _ _ => rfl) rfl ?_
      refine r_not (k := ?_)
      refine sl_nil ?_
      refine sp_then ?_
      cases hg : go (Y s ps[i].xs[j])
      · refine swd_t (h := ?_)
        refine sw_ret ?_
        refine sp_block_ret ?_
        refine sp_then_ret ?_
        refine sp_loop_ret ?_
        refine sp_block_ret ?_
        refine sp_block_ret ?_
        refine sp_then_ret ?_
        refine sp_loop_ret ?_
        refine sp_block_ret ?_
        refine sp_iret rfl rfl rfl ⟨hr.stop hg, rfl, rfl⟩ (by simp) rfl (by simp) rfl
      · refine swd_f (h := ?_)
        refine sw_skip ?_
        refine sp_block ?_
        refine sp_then ?_
        refine sw_region ?_
        refine r_add64 (k := ?_)
        refine r_move (k := ?_)
        refine sl_nil ?_
        refine sp_loop (ι := { p : Nat × σ // p.1 ≤ ps[i].xs.length ∧ At Y go A s0 (flat ps) p.2 (ps[i].xs.drop p.1 ++ flat (ps.drop (i + 1))) }) ⟨(j + 1, Y s ps[i].xs[j]), by dsimp only; omega, hr.next hg⟩ ?_ ?_
        · dsimp only; omega
        · exact Ent.mk' (by repeat' (first | trivial | exact rfl | apply And.intro)) (by repeat' (first | trivial | exact .head _ | apply And.intro | apply List.Mem.tail))
    · have h := of_decide_eq_false h
      obtain rfl : j = ps[i].xs.length := by omega
      rw [List.drop_length, List.nil_append] at hr
      refine sw_exit ?_
      refine sp_then_exit ?_
      refine sp_loop_exit ?_
      refine sp_block_exit ?_
      refine sp_block ?_
      refine sp_then ?_
      refine sw_region ?_
      refine r_add64 (k := ?_)
      refine r_move (k := ?_)
      refine sl_nil ?_
      refine sp_loop (ι := { p : Nat × σ // p.1 ≤ ps.length ∧ At Y go A s0 (flat ps) p.2 (flat (ps.drop p.1)) }) ⟨(i + 1, s), by dsimp only; omega, hr⟩ ?_ ?_
      · dsimp only; omega
      · exact Ent.mk' (by repeat' (first | trivial | exact rfl | apply And.intro)) (by repeat' (first | trivial | exact .head _ | apply And.intro | apply List.Mem.tail))
  · have h := of_decide_eq_false h
    obtain rfl : i = ps.length := by omega
    rw [List.drop_length] at hr
    refine sw_exit ?_
    refine sp_then_exit ?_
    refine sp_loop_exit ?_
    refine sp_block_exit ?_
    refine sp_inorm rfl rfl rfl ⟨hr.done, rfl, rfl⟩ (by simp) rfl (by simp) rfl

theorem c_bytes (G : Res) (ba : Option Addr) (n cap : Nat) : Ctr Tryd.prog G 86 [.slice ba n cap] [] [] (retF fun v Φ' => ∃ b, v = .func (.func 110) #[] #[.pointer (some ⟨b, 0, none⟩)] ∧ Φ' = [Res.mem (some ⟨b, 0, none⟩) [.slice ba n cap]]) := by
  refine Ctr.intro Tryd.func86 (by kernel_rfl) rfl Tryd.ntmps86 rfl rfl rfl fun w X => ?_
  refine sw_seq ?_
  refine sw_region ?_
  refine r_box (k := fun bx => ?_)
  refine r_assign (k := ?_)
  refine sl_nil ?_
  refine sp_then ?_
  refine sw_seq ?_
  refine sw_region ?_
  refine r_clos (k := ?_)
  refine r_assign (k := ?_)
  refine sl_nil ?_
  refine sp_then ?_
  refine sw_ret ?_
  refine sp_freeze ?_
  refine sp_retv rfl rfl (.tmp rfl) rfl rfl ⟨rfl, _, rfl, rfl⟩ (by simp) rfl (by simp)

def step (x : UInt64) (b : UInt8) : UInt64 := reckon (x.toUInt8 ^^^ b) ^^^ (x >>> 8)
def sum (l : List UInt8) : UInt64 := ~~~ (l.foldl step (UInt64.ofNat 18446744073709551615))

theorem c_sum (G : Res) (ba : Option Addr) (cap : Nat) (ps : List BS) (hok : ∀ p ∈ ps, p.ok) (hn : ps.length ≤ maxLen) : Ctr Tryd.prog G 49 [.slice ba ps.length cap] [] [Res.mem ba (partsV ps), Res.all ps BS.res] (ret1 (v64 (sum (flat ps)))) := by
  refine Ctr.intro Tryd.func49 (by kernel_rfl) rfl Tryd.ntmps49 rfl rfl rfl fun w X => ?_
  refine sw_seq ?_
  refine sw_region ?_
  refine r_assign (k := ?_)
  refine sl_nil ?_
  refine sp_then ?_
  refine sw_seq ?_
  refine sw_region ?_
  refine r_alloc (by exact z25) (by exact rfl) (by exact rfl) fun b => ?_
  refine r_store_all (k := ?_)
  refine sl_nil ?_
  refine sp_then ?_
  refine sw_seq ?_
  refine sw_seq ?_
  refine sw_region ?_
  refine r_move (k := ?_)
  refine r_callF (c_bytes G _ _ _) (by exact rfl) (by exact rfl) (by exact rfl) (by simp) (by exact rfl) ?_
  rintro _ _ ⟨q, rfl, rfl⟩
  refine sl_nil ?_
  refine sp_then ?_
  refine sw_block ?_
  refine sw_rangeA (i_bytes G q ba cap ps hok hn) (fun s (_ : Unit) => [.box b [v64 s] 25]) (fun _ _ => []) step (fun _ _ => True) (UInt64.ofNat 18446744073709551615) () rfl rfl rfl (adm_true _ _) (by simp) (by simp) (fun _ _ => rfl) rfl (fun x vs V w h => by rw [show vs = [v8 x] from h]; rfl) ?_ ?_
  · intro l mk rec w X U K s _ x vs hrec _ ht
    refine w_pure ?_
    rintro rfl
    refine sw_region ?_
    refine r_assign (k := ?_)
    refine sl_nil ?_
    refine sp_asgR hrec rfl ?_
    refine sw_block ?_
    refine sw_region ?_
    refine r_load_one (k := ?_)
    refine r_move (k := ?_)
    refine r_call1 (c_step G _ _) (by exact rfl) (by exact rfl) (by exact rfl) (by simp) (by exact rfl) ?_
    refine r_store_all (k := ?_)
    refine sl_nil ?_
    refine sp_block ?_
    refine sp_round (i' := ()) ht hrec rfl (by repeat (first | exact List.Sublist.refl _ | apply List.Sublist.cons)) (by simp)
  · intro _ mk
    refine sp_block ?_
    refine sp_then ?_
    refine sw_seq ?_
    refine sw_region ?_
    refine r_load_one (k := ?_)
    refine r_not64 (k := ?_)
    refine r_assign (k := ?_)
    refine sl_nil ?_
    refine sp_then ?_
    refine sw_ret ?_
    refine sp_retv rfl rfl (.tmp rfl) rfl rfl ⟨rfl, rfl, rfl⟩ (by simp) rfl (by simp)
end Go.Proofs.YtjahiohlekdhoaaDoor

namespace Go.Proofs.YtjahiohlekdhoaaDoor
open Go
set_option maxHeartbeats 4000000
set_option maxRecDepth 4000
attribute [local irreducible] SW SL SP RA Then FQ IQ LoopQ RQ AQ NX CutQ Exit.noGoto

theorem c_grow (G : Res) (n : Nat) (hn : n ≤ 140737488355328) : Ctr Tryd.prog G 109 [.slice none 0 0, vi (n : Int)] [] [] (retR 5 []) := by
  refine Ctr.intro Tryd.func109 (by kernel_rfl) rfl Tryd.ntmps109 rfl rfl rfl fun w X => ?_
  refine sw_seq ?_
  refine sw_region ?_
  refine r_assign (k := ?_)
  refine sl_nil ?_
  refine sp_then ?_
  refine sw_seq ?_
  refine sw_seq ?_
  refine sw_region ?_
  refine r_move (k := ?_)
  refine r_lss (k := ?_)
  refine sl_nil ?_
  refine sp_then ?_
  refine sw_cond rfl (fun h => ?_) (fun h => ?_)
  · have h := of_decide_eq_true h
    exact absurd h (by omega)
  refine sw_skip ?_
  refine sp_then ?_
  refine sw_seq ?_
  refine sw_seq ?_
  refine sw_region ?_
  refine r_move (k := ?_)
  refine r_move (k := ?_)
  refine r_cap (k := ?_)
  refine r_move (k := ?_)
  refine r_len (k := ?_)
  refine r_sub64 (k := ?_)
  refine r_sub64 (k := ?_)
  refine r_assign (k := ?_)
  refine sl_nil ?_
  refine sp_then ?_
  refine sw_seq ?_
  refine sw_region ?_
  refine r_move (k := ?_)
  refine r_gtr (k := ?_)
  refine sl_nil ?_
  refine sp_then ?_
  refine w_re (t := 16) (v' := vb (decide (0 < n))) rfl (by simp) ?_
  refine w_re (t := 1) (v' := vi n) rfl (by simp) ?_
  refine sw_cond rfl (fun h => ?_) (fun h => ?_)
  · have h := of_decide_eq_true h
    refine sw_region ?_
    refine r_move (k := ?_)
    refine r_move (k := ?_)
    refine r_cap (k := ?_)
    refine f_have (φ := Res.mem none []) (fun V w _ i v hv => by simp at hv) ?_
    refine r_cut (l := 0) (h := 0) (ba := none) (cs := []) (by exact tl rfl) (by exact rfl) (by iterate 24 (first | exact .head _ | apply List.Mem.tail | skip)) rfl ⟨_, rfl⟩ (by omega) (by omega) (by omega) (by exact rfl) ?_
    refine r_re (t := 20) (v' := .slice none 0 0) rfl (by simp [cutBase]) ?_
    refine r_move (k := ?_)
    refine r_growNil (nn := n) (z0 := .int .u8 0) (by exact tl rfl) (by exact ti rfl) (by exact z5) (by exact rfl) (by exact rfl) h hn (by exact rfl) (by exact rfl) fun v zs hz => ?_
    refine r_move (k := ?_)
    refine r_len (k := ?_)
    refine r_row_cut (kq := 0) (by exact tl rfl) (by exact rfl) (by exact rfl) (by omega) h (by exact rfl) fun v' h1 h2 => ?_
    refine r_assign (k := ?_)
    refine sl_nil ?_
    refine sp_then ?_
    refine sw_seq ?_
    refine sw_region ?_
    refine r_move (k := ?_)
    refine r_assign (k := ?_)
    refine sl_nil ?_
    refine sp_then ?_
    refine sw_ret ?_
    refine sp_eqB (B' := [.row v' ([] : List UInt8).length (bv []) 5 1]) (by simp [bv]) ?_
    refine sp_retv rfl rfl (.tmp rfl) rfl rfl ⟨h1, h2, rfl, rfl⟩ (List.Sublist.refl _) rfl (by simp)
  · refine sw_skip ?_
    refine sp_then ?_
    refine sw_seq ?_
    refine sw_region ?_
    refine r_move (k := ?_)
    refine r_assign (k := ?_)
    refine sl_nil ?_
    refine sp_then ?_
    refine sw_ret ?_
    refine sp_nil 5 1 ?_
    refine sp_retv rfl rfl (.tmp rfl) rfl rfl ⟨rfl, rfl, rfl, rfl⟩ (List.Sublist.refl _) rfl (by simp)

theorem flat_take (ps : List BS) (i : Nat) (h : i < ps.length) : flat (ps.take (i + 1)) = flat (ps.take i) ++ ps[i].xs := by
  rw [List.take_succ_eq_append_getElem h, flat, flat, List.flatMap_append]; simp
theorem flat_take_le (ps : List BS) (i : Nat) : (flat (ps.take i)).length ≤ (flat ps).length := by
  conv => rhs; rw [← List.take_append_drop i ps, flat, List.flatMap_append, List.length_append]
  exact Nat.le_add_right _ _

theorem c_concat (G : Res) (ba : Option Addr) (cap : Nat) (ps : List BS) (hok : ∀ p ∈ ps, p.ok) (hn : ps.length ≤ maxLen) (hl : (flat ps).length ≤ 1099511627776) : Ctr Tryd.prog G 85 [.slice ba ps.length cap] [] [Res.mem ba (partsV ps), Res.all ps BS.res] (retR 5 (flat ps)) := by
  have hn' : ps.length ≤ 9223372036854775807 := hn
  refine Ctr.intro Tryd.func85 (by kernel_rfl) rfl Tryd.ntmps85 rfl rfl rfl fun w X => ?_
  refine sw_seq ?_
  refine sw_region ?_
  refine r_assign (k := ?_)
  refine sl_nil ?_
  refine sp_then ?_
  refine sw_seq ?_
  refine sw_region ?_
  refine r_assign (k := ?_)
  refine sl_nil ?_
  refine sp_then ?_
  refine sw_seq ?_
  refine sw_seq ?_
  refine sw_region ?_
  refine r_move (k := ?_)
  refine r_len (k := ?_)
  refine r_move (k := ?_)
  refine sl_nil ?_
  refine sp_then ?_
  refine sw_block ?_
  refine sw_loop (ι := { i : Nat // i ≤ ps.length }) (fun i => [(0, .slice ba ps.length cap), (3, vi ((flat (ps.take i.1)).length : Int)), (9, .slice ba ps.length cap), (10, vi (ps.length : Int)), (11, vi (i.1 : Int))]) (fun _ => []) (fun _ => [Res.mem ba (partsV ps), Res.all ps BS.res]) (fun _ => []) (fun i => ps.length - i.1) ⟨0, by omega⟩ ?_ fun i => ?_
  · exact Ent.mk' (by repeat' (first | trivial | exact rfl | apply And.intro)) (by repeat' (first | trivial | exact .head _ | apply And.intro | apply List.Mem.tail))
  · obtain ⟨i, hi⟩ := i
    dsimp only
    refine sw_seq ?_
    refine sw_region ?_
    refine r_lss (k := ?_)
    refine sl_nil ?_
    refine sp_then ?_
    refine sw_seq ?_
    refine sw_cond rfl (fun h => ?_) (fun h => ?_)
    · have h := of_decide_eq_true h
      have hi' : i < ps.length := by omega
      have hk := (hok _ (List.getElem_mem hi'))
      have e1 := flat_take ps i hi'
      have e2 := flat_take_le ps (i + 1)
      have e3 : (flat (ps.take (i + 1))).length = (flat (ps.take i)).length + ps[i].xs.length := by rw [e1, List.length_append]
      refine sw_skip ?_
      refine sp_then ?_
      refine sw_seq ?_
      refine sw_block ?_
      refine sw_seq ?_
      refine sw_region ?_
      refine r_idx (by exact tl rfl) (by exact rfl) (by exact rfl) (by omega) (by omega) (by iterate 24 (first | exact .head _ | apply List.Mem.tail | skip)) (by simp [partsV]) (by exact rfl) (Int.toNat_natCast _) (by exact rfl) ?_
      refine r_load_mem1 (v := ps[i].v) (by exact tz rfl) (by exact rfl) (by iterate 24 (first | exact .head _ | apply List.Mem.tail | skip)) (by simp [partsV, hi']) (by exact rfl) ?_
      refine r_assign (k := ?_)
      refine sl_nil ?_
      refine sp_then ?_
      refine sw_seq ?_
      refine sw_region ?_
      refine r_move (k := ?_)
      refine r_move (k := ?_)
      refine r_len (k := ?_)
      refine r_add64 (k := ?_)
      refine r_assign (k := ?_)
      refine sl_nil ?_
      refine sp_then ?_
      refine sw_seq ?_
      refine sw_region ?_
      refine r_move (k := ?_)
      refine r_lss (k := ?_)
      refine sl_nil ?_
      refine sp_then ?_
      refine w_re (t := 3) (v' := vi ((flat (ps.take (i + 1))).length : Int)) rfl (by rw [e3]; simp) ?_
      skip
      refine sw_cond rfl (fun h => ?_) (fun h => ?_)
      · have h := of_decide_eq_true h
        exact absurd h (by omega)
      refine sw_skip ?_
      refine sp_block ?_
      refine sp_then ?_
      refine sw_region ?_
      refine r_add64 (k := ?_)
      refine r_move (k := ?_)
      refine sl_nil ?_
      refine sp_loop (ι := { i : Nat // i ≤ ps.length }) ⟨i + 1, by omega⟩ ?_ ?_
      · dsimp only; omega
      · exact Ent.mk' (by repeat' (first | trivial | exact rfl | apply And.intro)) (by repeat' (first | trivial | exact .head _ | apply And.intro | apply List.Mem.tail))
    · have h := of_decide_eq_false h
      obtain rfl : i = ps.length := by omega
      rw [List.take_length]
      refine sw_exit ?_
      refine sp_then_exit ?_
      refine sp_loop_exit ?_
      refine sp_block_exit ?_
      refine sp_then ?_
      refine sw_seq ?_
      refine sw_region ?_
      refine r_move (k := ?_)
      refine r_callR (Bp := []) (Br := []) (c_grow G (flat ps).length (by omega)) (by exact rfl) (by exact rfl) (by exact rfl) (by simp) (by exact rfl) fun v h1 h2 => ?_
      refine r_assign (k := ?_)
      refine sl_nil ?_
      refine sp_then ?_
      refine sw_seq ?_
      refine sw_seq ?_
      refine sw_region ?_
      refine r_move (k := ?_)
      refine r_len (k := ?_)
      refine r_move (k := ?_)
      refine sl_nil ?_
      refine sp_then ?_
      refine sw_block ?_
      refine sw_loop (ι := { p : Nat × Value // p.1 ≤ ps.length ∧ p.2.cells = #[p.2] ∧ p.2.oneCell' = true }) (fun p => [(6, p.1.2), (25, .slice ba ps.length cap), (26, vi (ps.length : Int)), (27, vi (p.1.1 : Int))]) (fun p => [.row p.1.2 (flat (ps.take p.1.1)).length (bv (flat (ps.take p.1.1))) 5 1]) (fun _ => [Res.mem ba (partsV ps), Res.all ps BS.res]) (fun _ => []) (fun i => ps.length - i.1.1) ⟨(0, v), by simp, h1, h2⟩ ?_ fun i => ?_
      · exact Ent.mk' (by repeat' (first | trivial | exact rfl | apply And.intro)) (by repeat' (first | trivial | exact .head _ | apply And.intro | apply List.Mem.tail))
      obtain ⟨⟨i, v⟩, hi, h1, h2⟩ := i
      dsimp only at hi h1 h2 ⊢
      refine sw_seq ?_
      refine sw_region ?_
      refine r_lss (k := ?_)
      refine sl_nil ?_
      refine sp_then ?_
      refine sw_seq ?_
      refine sw_cond rfl (fun h => ?_) (fun h => ?_)
      · have h := of_decide_eq_true h
        have hi' : i < ps.length := by omega
        have hk := (hok _ (List.getElem_mem hi'))
        have e1 := flat_take ps i hi'
        have e2 := flat_take_le ps (i + 1)
        have e3 : (flat (ps.take (i + 1))).length = (flat (ps.take i)).length + ps[i].xs.length := by rw [e1, List.length_append]
        refine sw_skip ?_
        refine sp_then ?_
        refine sw_seq ?_
        refine sw_block ?_
        refine sw_seq ?_
        refine sw_region ?_
        refine r_idx (by exact tl rfl) (by exact rfl) (by exact rfl) (by omega) (by omega) (by iterate 24 (first | exact .head _ | apply List.Mem.tail | skip)) (by simp [partsV]) (by exact rfl) (Int.toNat_natCast _) (by exact rfl) ?_
        refine r_load_mem1 (v := ps[i].v) (by exact tz rfl) (by exact rfl) (by iterate 24 (first | exact .head _ | apply List.Mem.tail | skip)) (by simp [partsV, hi']) (by exact rfl) ?_
        refine f_have (φ := ps[i].res) (fun V w h => h _ (.tail _ (.head _)) _ (List.getElem_mem hi')) ?_
        refine r_assign (k := ?_)
        refine sl_nil ?_
        refine sp_then ?_
        refine sw_region ?_
        refine r_move (k := ?_)
        refine r_move (k := ?_)
        refine r_appendB (s := ps[i]) (by exact tl rfl) (by exact z5) (by exact rfl) (by exact rfl) (by iterate 24 (first | exact .head _ | apply List.Mem.tail | skip)) (by omega) (by exact rfl) fun v' h3 h4 => ?_
        rw [← e1]
        refine r_assign (k := ?_)
        refine sl_nil ?_
        refine sp_block ?_
        refine sp_then ?_
        refine sw_region ?_
        refine r_add64 (k := ?_)
        refine r_move (k := ?_)
        refine sl_nil ?_
        refine sp_loop (ι := { p : Nat × Value // p.1 ≤ ps.length ∧ p.2.cells = #[p.2] ∧ p.2.oneCell' = true }) ⟨(i + 1, v'), by dsimp only; omega, h3, h4⟩ ?_ ?_
        · dsimp only; omega
        · exact Ent.mk' (by repeat' (first | trivial | exact rfl | apply And.intro)) (by repeat' (first | trivial | exact .head _ | apply And.intro | apply List.Mem.tail))
      · have h := of_decide_eq_false h
        obtain rfl : i = ps.length := by omega
        rw [List.take_length]
        refine sw_exit ?_
        refine sp_then_exit ?_
        refine sp_loop_exit ?_
        refine sp_block_exit ?_
        refine sp_then ?_
        refine sw_seq ?_
        refine sw_region ?_
        refine r_move (k := ?_)
        refine r_assign (k := ?_)
        refine sl_nil ?_
        refine sp_then ?_
        refine sw_ret ?_
        refine sp_retv rfl rfl (.tmp rfl) rfl rfl ⟨h1, h2, rfl, rfl⟩ (List.Sublist.refl _) rfl (by simp)

/-- pack.PutBytes -/
theorem c_putBytes (G : Res) (b s : BS) (hb : b.ok) (hs : s.ok) (hbl : b.xs.length ≤ 1099511620000) (hsl : s.xs.length ≤ 255) : Ctr Tryd.prog G 48 [b.v, s.v] [] [b.res, s.res] (retR 5 (b.xs ++ UInt8.ofNat s.xs.length :: s.xs)) := by
  refine Ctr.intro Tryd.func48 (by kernel_rfl) rfl Tryd.ntmps48 rfl rfl rfl fun w X => ?_
  refine sw_seq ?_
  refine sw_region ?_
  refine r_assign (k := ?_)
  refine sl_nil ?_
  refine sp_then ?_
  refine sw_seq ?_
  refine sw_region ?_
  refine r_move (k := ?_)
  refine r_move (k := ?_)
  refine r_len (k := ?_)
  refine r_min (k := ?_)
  refine r_re (t := 8) (v' := vi (s.xs.length : Int)) rfl (by rw [if_neg (by omega)]) ?_
  refine r_cutB (s := s) (l := 0) (h := s.xs.length) (by exact tl rfl) (by exact rfl) (by iterate 24 (first | exact .head _ | apply List.Mem.tail | skip)) hs rfl ⟨_, rfl⟩ (by omega) (Nat.le_refl _) (by exact rfl) fun s2 hs2 hx2 => ?_
  have hx2 : s2.xs = s.xs := by rw [hx2]; simp
  refine r_assign (k := ?_)
  refine sl_nil ?_
  refine sp_then ?_
  refine sw_seq ?_
  refine sw_region ?_
  refine r_move (k := ?_)
  refine r_move (k := ?_)
  refine r_len (k := ?_)
  refine r_cv_i_8 (k := ?_)
  refine r_litB (xs := [.tmp 13]) (bs := [UInt8.ofNat s2.xs.length]) (by exact tl rfl) (by exact z5) (by exact rfl) (by exact rfl) (by exact rfl) (by exact rfl) (by exact rfl) fun v h1 h2 => ?_
  refine o_rowB fun one hone hxo e => ?_
  subst e
  refine r_move (k := ?_)
  refine r_lit (vs := [b.v, one.v, s2.v]) (xs := [.tmp 10, .tmp 14, .tmp 15]) (cells := [b.v, one.v, s2.v]) (by exact tl rfl) (by exact z28) (by exact rfl) (by exact rfl) (by intro v hv; simp at hv; rcases hv with rfl | rfl | rfl <;> rfl) (by decide) (by decide) (by exact rfl) (by exact rfl) (by exact rfl) fun q => ?_
  refine o_row fun ba cap e h1 h2 h3 => ?_
  cases e
  refine f_have (φ := Res.all [b, one, s2] BS.res) (fun V w h p hp => ?_) ?_
  · simp at hp
    rcases hp with rfl | rfl | rfl
    · exact h _ (by iterate 24 (first | exact .head _ | apply List.Mem.tail | skip))
    · exact h _ (by iterate 24 (first | exact .head _ | apply List.Mem.tail | skip))
    · exact h _ (by iterate 24 (first | exact .head _ | apply List.Mem.tail | skip))
  have e : flat [b, one, s2] = b.xs ++ UInt8.ofNat s.xs.length :: s.xs := by simp [flat, hxo, hx2]
  refine r_callR (Bp := []) (Br := []) (c_concat G (some ⟨q, 0, none⟩) 3 [b, one, s2] (by intro p hp; simp at hp; rcases hp with rfl | rfl | rfl <;> assumption) (by simp [maxLen]) (by rw [e]; simp; omega)) (by exact rfl) (by exact rfl) (by exact rfl) (by simp [partsV]) (by exact rfl) fun v h1 h2 => ?_
  rw [e]
  refine r_assign (k := ?_)
  refine sl_nil ?_
  refine sp_then ?_
  refine sw_ret ?_
  refine sp_retv rfl rfl (.tmp rfl) rfl rfl ⟨h1, h2, rfl, rfl⟩ (List.Sublist.refl _) rfl (by simp)

/-- What TakeBytes tells of a length and what is behind it: bytes, the rest, an error. -/
def takeB (n : UInt8) (l : List UInt8) (most : Int) : List UInt8 × List UInt8 × Int :=
  if (l.length : Int) + 1 ≤ (n.toNat : Int) then ([], n :: l, 20) else if most < (n.toNat : Int) then ([], n :: l, 21) else (l.take n.toNat, l.drop n.toNat, 0)
def BS.nil : BS := ⟨none, 0, []⟩
theorem nil_res {V : Av} {w : World} : BS.nil.res.p V w := fun i v hv => by simp [BS.nil, bv] at hv

theorem c_takeBytes (G : Res) (b : BS) (hok : b.ok) (n : UInt8) (l : List UInt8) (hb : b.xs = n :: l) (hbl : l.length ≤ 1099511627776) (most : Int) : Ctr Tryd.prog G 55 [b.v, vi most] [] [b.res]
    (retF fun v Φ' => ∃ k r : BS, v = .tuple #[k.v, r.v, vi (takeB n l most).2.2] ∧ k.ok ∧ r.ok ∧ k.xs = (takeB n l most).1 ∧ r.xs = (takeB n l most).2.1 ∧ Φ' = [k.res, r.res]) := by
  have hlen : b.xs.length = l.length + 1 := by rw [hb]; rfl
  have hn := lt8 n
  have hload : (bv b.xs)[0 * 1]? = some (v8 n) := by rw [hb]; rfl
  refine Ctr.intro Tryd.func55 (by kernel_rfl) rfl Tryd.ntmps55 rfl rfl rfl fun w X => ?_
  refine sw_seq ?_
  refine sw_region ?_
  refine r_assign (k := ?_)
  refine r_assign (k := ?_)
  refine r_assign (k := ?_)
  refine sl_nil ?_
  refine sp_then ?_
  refine sw_scope ?_
  refine sw_seq ?_
  refine sw_region ?_
  refine r_move (k := ?_)
  refine r_assign (k := ?_)
  refine sl_nil ?_
  refine sp_then ?_
  refine sw_seq ?_
  refine sw_label ?_
  refine sp_then ?_
  refine sw_seq ?_
  refine sw_block ?_
  refine sw_seq ?_
  refine sw_region ?_
  refine r_move (k := ?_)
  refine r_len (k := ?_)
  refine r_eql (k := ?_)
  refine r_move (k := ?_)
  refine r_re (t := 26) (v' := vb false) rfl (by simp [hb]; omega) ?_
  refine gd_yes (k := ?_)
  refine r_move (k := ?_)
  refine gd_yes (k := ?_)
  refine r_len (k := ?_)
  refine gd_yes (k := ?_)
  refine r_move (k := ?_)
  refine gd_yes (k := ?_)
  refine r_idx (k := ?_)
  refine gd_yes (k := ?_)
  refine r_load_mem1 (by exact tz rfl) (by exact rfl) (by iterate 24 (first | exact .head _ | apply List.Mem.tail | skip)) hload (by exact rfl) ?_
  refine gd_yes (k := ?_)
  refine r_cv_8_i (k := ?_)
  refine gd_yes (k := ?_)
  refine r_leq (k := ?_)
  refine rd_pick_f (k := ?_)
  refine r_assign (k := ?_)
  refine sl_nil ?_
  refine sp_then ?_
  refine sw_cond rfl (fun h => ?_) (fun h => ?_)
  · have h := of_decide_eq_true h
    have e : takeB n l most = ([], n :: l, 20) := if_pos (by omega)
    rw [e]
    refine sw_region ?_
    refine r_assign (k := ?_)
    refine sl_nil ?_
    refine sp_block ?_
    refine sp_then ?_
    refine sw_seq ?_
    refine sw_region ?_
    refine r_move (k := ?_)
    refine r_move (k := ?_)
    refine r_move (k := ?_)
    refine r_assign (k := ?_)
    refine r_assign (k := ?_)
    refine r_assign (k := ?_)
    refine sl_nil ?_
    refine sp_then ?_
    refine sw_ret ?_
    refine sp_ng_ret ?_
    refine sp_of_sl (fun h => f_have (φ := BS.nil.res) (fun V w hw => nil_res) h) ?_
    refine sp_ret3 rfl rfl (.tmp rfl) (.tmp rfl) (.tmp rfl) rfl rfl ⟨rfl, BS.nil, b, rfl, ⟨Nat.le_refl _, Nat.zero_le _⟩, hok, rfl, hb, rfl⟩ (by simp) rfl (by simp)
  have h := of_decide_eq_false h
  have e1 : ¬ ((l.length : Int) + 1 ≤ (n.toNat : Int)) := by omega
  refine sw_seq ?_
  refine sw_region ?_
  refine r_move (k := ?_)
  refine r_idx (k := ?_)
  refine r_load_mem1 (by exact tz rfl) (by exact rfl) (by iterate 24 (first | exact .head _ | apply List.Mem.tail | skip)) hload (by exact rfl) ?_
  refine r_cv_8_i (k := ?_)
  refine r_move (k := ?_)
  refine r_gtr (k := ?_)
  refine r_assign (k := ?_)
  refine sl_nil ?_
  refine sp_then ?_
  refine sw_cond rfl (fun h => ?_) (fun h => ?_)
  · have h := of_decide_eq_true h
    have e : takeB n l most = ([], n :: l, 21) := by unfold takeB; rw [if_neg e1, if_pos h]
    rw [e]
    refine sw_region ?_
    refine r_assign (k := ?_)
    refine sl_nil ?_
    refine sp_block ?_
    refine sp_then ?_
    refine sw_seq ?_
    refine sw_region ?_
    refine r_move (k := ?_)
    refine r_move (k := ?_)
    refine r_move (k := ?_)
    refine r_assign (k := ?_)
    refine r_assign (k := ?_)
    refine r_assign (k := ?_)
    refine sl_nil ?_
    refine sp_then ?_
    refine sw_ret ?_
    refine sp_ng_ret ?_
    refine sp_of_sl (fun h => f_have (φ := BS.nil.res) (fun V w hw => nil_res) h) ?_
    refine sp_ret3 rfl rfl (.tmp rfl) (.tmp rfl) (.tmp rfl) rfl rfl ⟨rfl, BS.nil, b, rfl, ⟨Nat.le_refl _, Nat.zero_le _⟩, hok, rfl, hb, rfl⟩ (by simp) rfl (by simp)
  have h := of_decide_eq_false h
  have e : takeB n l most = (l.take n.toNat, l.drop n.toNat, 0) := by unfold takeB; rw [if_neg e1, if_neg h]
  rw [e]
  refine sw_seq ?_
  refine sw_region ?_
  refine r_move (k := ?_)
  refine r_idx (k := ?_)
  refine r_load_mem1 (by exact tz rfl) (by exact rfl) (by iterate 24 (first | exact .head _ | apply List.Mem.tail | skip)) hload (by exact rfl) ?_
  refine r_cv_8_i (k := ?_)
  refine r_add64 (k := ?_)
  refine r_assign (k := ?_)
  refine sl_nil ?_
  refine sp_then ?_
  refine sw_seq ?_
  refine w_re (t := 7) (v' := vi ((1 + n.toNat : Nat) : Int)) rfl (by simp) ?_
  refine sw_draw [] [b.res] [0, 1, 2, 3, 4, 5, 6, 7, 8, 9] mix (by kernel_rfl) rfl ?_
  refine ra_first 1 [] [0, 2, 3, 4, 5, 6, 7, 8, 9] (hq := by exact q_move) (k := ?_)
  refine ra_first 2 [] [0, 3, 4, 5, 6, 7, 8, 9] (hq := by exact q_move) (k := ?_)
  refine ra_first 3 [] [0, 4, 5, 6, 7, 8, 9] (hq := by exact q_cutB (s := b) (l := 1) (h := 1 + n.toNat) (by exact tl rfl) (by exact rfl) hok ⟨_, rfl⟩ ⟨_, rfl⟩ (by omega) (by omega)) (k := ?_)
  refine ra_first 5 [] [0, 4, 6, 7, 8, 9] (hq := by exact q_move) (k := ?_)
  refine ra_first 6 [] [0, 4, 7, 8, 9] (hq := by exact q_move) (k := ?_)
  refine ra_first 7 [] [0, 4, 8, 9] (hq := by exact q_cutB (s := b) (l := 1 + n.toNat) (h := b.xs.length) (by exact tl rfl) (by exact rfl) hok ⟨_, rfl⟩ rfl (by omega) (Nat.le_refl _)) (k := ?_)
  refine ra1 (i := 0) [4, 8, 9] (h := ?_)
  refine r_litB (xs := []) (bs := []) (by exact tl rfl) (by exact z5) (by exact rfl) (by exact rfl) (by exact rfl) (by exact rfl) (by exact rfl) fun v h1 h2 => ?_
  refine sl_nil ?_
  refine sp_nx (k := ?_)
  refine ra1 (i := 4) [8, 9] (h := ?_)
  refine f_have (φ := (cutB b 1 (1 + n.toNat)).res) (fun V w hw => cutB_res (hw _ (.head _)) hok (by omega) (by omega)) ?_
  refine r_appendB (xs := []) (s := cutB b 1 (1 + n.toNat)) (by exact tl rfl) (by exact z5) (by exact rfl) (by exact rfl) (by iterate 24 (first | exact .head _ | apply List.Mem.tail | skip)) (by simp [cutB]; omega) (by exact rfl) fun v' h3 h4 => ?_
  refine sl_nil ?_
  refine sp_nx (k := ?_)
  refine ra_first 8 [] [9] (hq := by exact q_assign) (k := ?_)
  refine ra_first 9 [] [] (hq := by exact q_assign) (k := ?_)
  refine ra_done ?_
  refine sp_then ?_
  refine sw_exit ?_
  refine sp_block_exit ?_
  refine sp_then ?_
  refine sw_seq ?_
  refine sw_region ?_
  refine r_move (k := ?_)
  refine r_move (k := ?_)
  refine r_move (k := ?_)
  refine r_assign (k := ?_)
  refine r_assign (k := ?_)
  refine r_assign (k := ?_)
  refine sl_nil ?_
  refine sp_then ?_
  refine sw_ret ?_
  refine sp_ng_ret ?_
  refine sp_rowB fun k hk hkx ek => ?_
  subst ek
  refine sp_of_sl (fun h => f_have (φ := (cutB b (1 + n.toNat) b.xs.length).res) (fun V w hw => cutB_res (hw _ (.tail _ (.tail _ (.head _)))) hok (by omega) (Nat.le_refl _)) h) ?_
  refine sp_ret3 rfl rfl (.tmp rfl) (.tmp rfl) (.tmp rfl) rfl rfl ⟨rfl, k, cutB b (1 + n.toNat) b.xs.length, rfl, hk, cutB_ok hok (Nat.le_refl _), ?_, ?_, rfl⟩ (by simp) rfl (by simp)
  · rw [hkx]; simp [cutB, hb]
  · simp [cutB, hb]
    rw [Nat.add_comm 1, List.drop_succ_cons, List.take_of_length_le (by simp)]

def idxf (p : UInt8 → Bool) : List UInt8 → Int → Int
  | [], _ => -1
  | x :: l, i => bif p x then i else idxf p l (i + 1)
theorem idxf_any (p : UInt8 → Bool) : ∀ (l : List UInt8) (i : Int), 0 ≤ i → decide (0 ≤ idxf p l i) = l.any p
  | [], _, _ => rfl
  | x :: l, i, h => by
    rw [idxf, List.any_cons]
    cases p x
    · simpa using idxf_any p l (i + 1) (by omega)
    · simpa using h

theorem c_indexFunc (G : Res) (s : BS) (hok : s.ok) (p : UInt8 → Bool) {fid : FuncId} (hf : ∀ x, Ctr Tryd.prog G fid [v8 x] [] [] (ret1 (vb (p x)))) : Ctr Tryd.prog G 114 [s.v, .func (.func fid) #[] #[]] [] [s.res] (ret1 (vi (idxf p s.xs 0))) := by
  have hn' : s.xs.length ≤ 9223372036854775807 := Nat.le_trans hok.1 hok.2
  refine Ctr.intro Tryd.func114 (by kernel_rfl) rfl Tryd.ntmps114 rfl rfl rfl fun w X => ?_
  refine sw_seq ?_
  refine sw_region ?_
  refine r_assign (k := ?_)
  refine sl_nil ?_
  refine sp_then ?_
  refine sw_seq ?_
  refine sw_seq ?_
  refine sw_region ?_
  refine r_move (k := ?_)
  refine r_len (k := ?_)
  refine r_move (k := ?_)
  refine sl_nil ?_
  refine sp_then ?_
  refine sw_block ?_
  refine sw_loop (ι := { i : Nat // i ≤ s.xs.length ∧ idxf p (s.xs.drop i) i = idxf p s.xs 0 }) (fun i => [(0, s.v), (1, .func (.func fid) #[] #[]), (7, vi (s.xs.length : Int)), (8, vi (i.1 : Int))]) (fun _ => []) (fun _ => [s.res]) (fun _ => []) (fun i => s.xs.length - i.1) ⟨0, by simp⟩ ?_ fun i => ?_
  · exact Ent.mk' (by repeat' (first | trivial | exact rfl | apply And.intro)) (by repeat' (first | trivial | exact .head _ | apply And.intro | apply List.Mem.tail))
  obtain ⟨i, hi, hr⟩ := i
  dsimp only
  refine sw_seq ?_
  refine sw_region ?_
  refine r_lss (k := ?_)
  refine sl_nil ?_
  refine sp_then ?_
  refine sw_seq ?_
  refine sw_cond rfl (fun h => ?_) (fun h => ?_)
  · have h := of_decide_eq_true h
    have hi' : i < s.xs.length := by omega
    rw [drop_cons _ i hi', idxf] at hr
    refine sw_skip ?_
    refine sp_then ?_
    refine sw_seq ?_
    refine sw_block ?_
    refine sw_seq ?_
    refine sw_region ?_
    refine r_move (k := ?_)
    refine r_assign (k := ?_)
    refine sl_nil ?_
    refine sp_then ?_
    refine sw_seq ?_
    refine sw_region ?_
    refine r_move (k := ?_)
    refine r_move (k := ?_)
    refine r_move (k := ?_)
    refine r_idx (k := ?_)
    refine r_load_mem1 (v := v8 s.xs[i]) (by exact tz rfl) (by exact rfl) (by iterate 24 (first | exact .head _ | apply List.Mem.tail | skip)) (by rw [Nat.mul_one]; exact bv_get _ _ hi') (by exact rfl) ?_
    refine r_call1 (cap := []) (hf s.xs[i]) (by exact rfl) (by exact rfl) (by exact rfl) (by simp) (by exact rfl) ?_
    refine sl_nil ?_
    refine sp_then ?_
    cases hp : p s.xs[i]
    · rw [hp] at hr
      refine swd_f (h := ?_)
      refine sw_skip ?_
      refine sp_block ?_
      refine sp_then ?_
      refine sw_region ?_
      refine r_add64 (k := ?_)
      refine r_move (k := ?_)
      refine sl_nil ?_
      refine sp_loop (ι := { i : Nat // i ≤ s.xs.length ∧ idxf p (s.xs.drop i) i = idxf p s.xs 0 }) ⟨i + 1, by omega, by simpa using hr⟩ ?_ ?_
      · dsimp only; omega
      · exact Ent.mk' (by repeat' (first | trivial | exact rfl | apply And.intro)) (by repeat' (first | trivial | exact .head _ | apply And.intro | apply List.Mem.tail))
    · rw [hp] at hr
      have hr : (i : Int) = idxf p s.xs 0 := hr
      refine swd_t (h := ?_)
      refine sw_seq ?_
      refine sw_region ?_
      refine r_move (k := ?_)
      refine r_assign (k := ?_)
      refine sl_nil ?_
      refine sp_then ?_
      refine sw_ret ?_
      refine sp_block_ret ?_
      refine sp_then_ret ?_
      refine sp_loop_ret ?_
      refine sp_block_ret ?_
      refine sp_then_ret ?_
      refine sp_retv rfl rfl (.tmp rfl) rfl rfl ⟨by rw [hr], rfl, rfl⟩ (by simp) rfl (by simp)
  · have h := of_decide_eq_false h
    obtain rfl : i = s.xs.length := by omega
    rw [List.drop_length] at hr
    have hr : (-1 : Int) = idxf p s.xs 0 := hr
    refine sw_exit ?_
    refine sp_then_exit ?_
    refine sp_loop_exit ?_
    refine sp_block_exit ?_
    refine sp_then ?_
    refine sw_seq ?_
    refine sw_region ?_
    refine r_assign (k := ?_)
    refine sl_nil ?_
    refine sp_then ?_
    refine sw_ret ?_
    refine sp_retv rfl rfl (.tmp rfl) rfl rfl ⟨by rw [hr], rfl, rfl⟩ (by simp) rfl (by simp)

theorem c_containsFunc (G : Res) (s : BS) (hok : s.ok) (p : UInt8 → Bool) {fid : FuncId} (hf : ∀ x, Ctr Tryd.prog G fid [v8 x] [] [] (ret1 (vb (p x)))) : Ctr Tryd.prog G 91 [s.v, .func (.func fid) #[] #[]] [] [s.res] (ret1 (vb (s.xs.any p))) := by
  refine Ctr.intro Tryd.func91 (by kernel_rfl) rfl Tryd.ntmps91 rfl rfl rfl fun w X => ?_
  refine sw_seq ?_
  refine sw_region ?_
  refine r_assign (k := ?_)
  refine sl_nil ?_
  refine sp_then ?_
  refine sw_seq ?_
  refine sw_region ?_
  refine r_move (k := ?_)
  refine r_move (k := ?_)
  refine r_call1 (c_indexFunc G s hok p hf) (by exact rfl) (by exact rfl) (by exact rfl) (by simp) (by exact rfl) ?_
  refine r_geq (k := ?_)
  refine r_assign (k := ?_)
  refine sl_nil ?_
  refine sp_then ?_
  refine sw_ret ?_
  refine sp_retv rfl rfl (.tmp rfl) rfl rfl ⟨by rw [← idxf_any p s.xs 0 (by omega)], rfl, rfl⟩ (by simp) rfl (by simp)

def nonzero (x : UInt8) : Bool := decide ((x.toNat : Int) ≠ 0)
theorem c_clean1 (G : Res) (x : UInt8) : Ctr Tryd.prog G 92 [v8 x] [] [] (ret1 (vb (nonzero x))) := by
  refine Ctr.intro Tryd.func92 (by kernel_rfl) rfl Tryd.ntmps92 rfl rfl rfl fun w X => ?_
  refine sw_seq ?_
  refine sw_region ?_
  refine r_assign (k := ?_)
  refine sl_nil ?_
  refine sp_then ?_
  refine sw_seq ?_
  refine sw_region ?_
  refine r_move (k := ?_)
  refine r_neq (k := ?_)
  refine r_assign (k := ?_)
  refine sl_nil ?_
  refine sp_then ?_
  refine sw_ret ?_
  refine sp_retv rfl rfl (.tmp rfl) rfl rfl ⟨rfl, rfl, rfl⟩ (by simp) rfl (by simp)

theorem c_clean (G : Res) (s : BS) (hok : s.ok) : Ctr Tryd.prog G 56 [s.v] [] [s.res] (ret1 (vb (!s.xs.any nonzero))) := by
  refine Ctr.intro Tryd.func56 (by kernel_rfl) rfl Tryd.ntmps56 rfl rfl rfl fun w X => ?_
  refine sw_seq ?_
  refine sw_region ?_
  refine r_assign (k := ?_)
  refine sl_nil ?_
  refine sp_then ?_
  refine sw_seq ?_
  refine sw_region ?_
  refine r_move (k := ?_)
  refine r_call1 (c_containsFunc G s hok nonzero (c_clean1 G)) (by exact rfl) (by exact rfl) (by exact rfl) (by simp) (by exact rfl) ?_
  refine r_not (k := ?_)
  refine r_assign (k := ?_)
  refine sl_nil ?_
  refine sp_then ?_
  refine sw_ret ?_
  refine sp_retv rfl rfl (.tmp rfl) rfl rfl ⟨rfl, rfl, rfl⟩ (by simp) rfl (by simp)
end Go.Proofs.YtjahiohlekdhoaaDoor

namespace Go.Proofs.YtjahiohlekdhoaaDoor
open Go
set_option maxHeartbeats 4000000
set_option maxRecDepth 4000
attribute [local irreducible] SW SL SP RA Then FQ IQ LoopQ RQ AQ NX CutQ Exit.noGoto

/-- A mark. -/
structure MkV where
  on : UInt8
  disk : UInt8
  since : UInt32
  key : BS
def MkV.cs (m : MkV) : List Value := [v8 m.on, v8 m.disk, v32 m.since, m.key.v]
def MkV.v (m : MkV) : Value := .agg m.cs.toArray
/-- An anchor. -/
structure AncV where
  tx : UInt32
  size : UInt16
  root : PtrV
  count : UInt32
  live : UInt8
  both : UInt32
  mark : MkV
def AncV.cs (a : AncV) : List Value := [v32 a.tx, v16 a.size, v8 a.root.kind, v16 a.root.a0, v16 a.root.a1, v32 a.root.birth, v64 a.root.sum, v32 a.count, v8 a.live, v32 a.both, v8 a.mark.on, v8 a.mark.disk, v32 a.mark.since, a.mark.key.v]
def AncV.v (a : AncV) : Value := .agg a.cs.toArray

theorem c_slot (G : Res) (tx : UInt32) : Ctr Tryd.prog G 19 [v32 tx] [] [] (ret1 (vi ((tx % 4).toNat : Int))) := by
  refine Ctr.intro Tryd.func19 (by kernel_rfl) rfl Tryd.ntmps19 rfl rfl rfl fun w X => ?_
  refine sw_seq ?_
  refine sw_region ?_
  refine r_assign (k := ?_)
  refine sl_nil ?_
  refine sp_then ?_
  refine sw_seq ?_
  refine sw_region ?_
  refine r_move (k := ?_)
  refine r_rem32c (k := ?_)
  refine r_cv_32_i (k := ?_)
  refine r_assign (k := ?_)
  refine sl_nil ?_
  refine sp_then ?_
  refine sw_ret ?_
  refine sp_retv rfl rfl (.tmp rfl) rfl rfl ⟨rfl, rfl, rfl⟩ (by simp) rfl (by simp)

theorem tstr : Tryd.prog.underlying 9 = some .string := by kernel_rfl

def alikeV (a b : MkV) : Bool := decide ((a.on.toNat : Int) = (b.on.toNat : Int)) && (decide ((a.disk.toNat : Int) = (b.disk.toNat : Int)) && (decide ((a.since.toNat : Int) = (b.since.toNat : Int)) && (a.key.xs == b.key.xs)))
theorem c_alike (G : Res) (a b : MkV) : Ctr Tryd.prog G 28 [a.v, b.v] [] [a.key.res, b.key.res] (ret1 (vb (alikeV a b))) := by
  refine Ctr.intro Tryd.func28 (by kernel_rfl) rfl Tryd.ntmps28 rfl rfl rfl fun w X => ?_
  refine sw_seq ?_
  refine sw_region ?_
  refine r_box (k := fun bx => ?_)
  refine r_box (k := fun bx => ?_)
  refine r_assign (k := ?_)
  refine sl_nil ?_
  refine sp_then ?_
  refine sw_seq ?_
  refine sw_region ?_
  refine r_fieldAddr (k := ?_)
  refine r_load_one (k := ?_)
  refine r_fieldAddr (k := ?_)
  refine r_load_one (k := ?_)
  refine r_eql (k := ?_)
  refine r_move (k := ?_)
  refine g_part (h1 := fun hg => ?_) (h2 := fun hg => ?_)
  focus
    refine gd_yes (k := ?_)
    refine r_fieldAddr (k := ?_)
    refine gd_yes (k := ?_)
    refine r_load_one (k := ?_)
    refine gd_yes (k := ?_)
    refine r_fieldAddr (k := ?_)
    refine gd_yes (k := ?_)
    refine r_load_one (k := ?_)
    refine gd_yes (k := ?_)
    refine r_eql (k := ?_)
    refine rd_pick_t (k := ?_)
    refine r_move (k := ?_)
    refine g_part (h1 := fun hg => ?_) (h2 := fun hg => ?_)
    focus
      refine gd_yes (k := ?_)
      refine r_fieldAddr (k := ?_)
      refine gd_yes (k := ?_)
      refine r_load_one (k := ?_)
      refine gd_yes (k := ?_)
      refine r_fieldAddr (k := ?_)
      refine gd_yes (k := ?_)
      refine r_load_one (k := ?_)
      refine gd_yes (k := ?_)
      refine r_eql (k := ?_)
      refine rd_pick_t (k := ?_)
      refine r_move (k := ?_)
      refine g_part (h1 := fun hg => ?_) (h2 := fun hg => ?_)
      focus
        refine gd_yes (k := ?_)
        refine r_fieldAddr (k := ?_)
        refine gd_yes (k := ?_)
        refine r_load_one (k := ?_)
        refine gd_yes (k := ?_)
      rotate_left 1
      focus
        refine gd_no (k := ?_)
        refine gd_no (k := ?_)
        refine gd_no (k := ?_)
        refine gd_no (k := ?_)
        refine gd_no (k := ?_)
        refine gd_no (k := ?_)
        refine gd_no (k := ?_)
        refine rd_pick_f (k := ?_)
        refine r_assign (k := ?_)
        refine sl_nil ?_
        refine sp_then ?_
        refine sw_ret ?_
      rotate_left 1
    rotate_left 2
    focus
      refine gd_no (k := ?_)
      refine gd_no (k := ?_)
      refine gd_no (k := ?_)
      refine gd_no (k := ?_)
      refine gd_no (k := ?_)
      refine rd_pick_f (k := ?_)
      refine r_move (k := ?_)
      refine gd_no (k := ?_)
      refine gd_no (k := ?_)
      refine gd_no (k := ?_)
      refine gd_no (k := ?_)
      refine gd_no (k := ?_)
      refine gd_no (k := ?_)
      refine gd_no (k := ?_)
      refine rd_pick_f (k := ?_)
      refine r_assign (k := ?_)
      refine sl_nil ?_
      refine sp_then ?_
      refine sw_ret ?_
    rotate_left 1
  rotate_left 3
  focus
    refine gd_no (k := ?_)
    refine gd_no (k := ?_)
    refine gd_no (k := ?_)
    refine gd_no (k := ?_)
    refine gd_no (k := ?_)
    refine rd_pick_f (k := ?_)
    refine r_move (k := ?_)
    refine gd_no (k := ?_)
    refine gd_no (k := ?_)
    refine gd_no (k := ?_)
    refine gd_no (k := ?_)
    refine gd_no (k := ?_)
    refine rd_pick_f (k := ?_)
    refine r_move (k := ?_)
    refine gd_no (k := ?_)
    refine gd_no (k := ?_)
    refine gd_no (k := ?_)
    refine gd_no (k := ?_)
    refine gd_no (k := ?_)
    refine gd_no (k := ?_)
    refine gd_no (k := ?_)
    refine rd_pick_f (k := ?_)
    refine r_assign (k := ?_)
    refine sl_nil ?_
    refine sp_then ?_
    refine sw_ret ?_
  rotate_left 1
  any_goals refine r_str (s := a.key) (by exact tl rfl) (by exact ti rfl) (by exact tstr) (by exact rfl) (by iterate 24 (first | exact .head _ | apply List.Mem.tail | skip)) (by exact rfl) ?_
  focus
    refine gd_yes (k := ?_)
    refine r_fieldAddr (k := ?_)
    refine gd_yes (k := ?_)
    refine r_load_one (k := ?_)
    refine gd_yes (k := ?_)
  rotate_left 1
  rotate_left 1
  rotate_left 1
  rotate_left 1
  any_goals refine r_str (s := b.key) (by exact tl rfl) (by exact ti rfl) (by exact tstr) (by exact rfl) (by iterate 24 (first | exact .head _ | apply List.Mem.tail | skip)) (by exact rfl) ?_
  focus
    refine gd_yes (k := ?_)
  rotate_left 1
  rotate_left 1
  rotate_left 1
  rotate_left 1
  any_goals refine r_streq (xs := a.key.xs) (ys := b.key.xs) (by exact rfl) (by exact rfl) (by exact rfl) ?_
  focus
    refine rd_pick_t (k := ?_)
    refine r_assign (k := ?_)
    refine sl_nil ?_
    refine sp_then ?_
    refine sw_ret ?_
  rotate_left 1
  rotate_left 1
  rotate_left 1
  rotate_left 1
  all_goals refine sp_retv rfl rfl (.tmp rfl) rfl rfl ⟨?_, rfl, rfl⟩ (by simp) rfl (by simp)
  all_goals simp_all [alikeV]

def markedV (m : MkV) (tx : UInt32) : Bool :=
  if (8 : Int) < (m.key.xs.length : Int) then false
  else if (m.on.toNat : Int) = 2 then decide ((m.disk.toNat : Int) ≤ 1) && decide ((m.since.toNat : Int) ≤ (tx.toNat : Int))
  else if (m.on.toNat : Int) = 0 ∧ (0 : Int) < (m.key.xs.length : Int) then false
  else decide ((m.on.toNat : Int) ≤ 1) && (decide ((m.disk.toNat : Int) = 0) && decide ((m.since.toNat : Int) = 0))
theorem c_marked (G : Res) (m : MkV) (tx : UInt32) : Ctr Tryd.prog G 23 [m.v, v32 tx] [] [m.key.res] (ret1 (vb (markedV m tx))) := by
  refine Ctr.intro Tryd.func23 (by kernel_rfl) rfl Tryd.ntmps23 rfl rfl rfl fun w X => ?_
  refine sw_seq ?_
  refine sw_region ?_
  refine r_box (k := fun bx => ?_)
  refine r_assign (k := ?_)
  refine sl_nil ?_
  refine sp_then ?_
  refine sw_seq ?_
  refine sw_block ?_
  refine sw_seq ?_
  refine sw_region ?_
  refine r_fieldAddr (k := ?_)
  refine r_load_one (k := ?_)
  refine r_len (k := ?_)
  refine r_gtr (k := ?_)
  refine r_assign (k := ?_)
  refine sl_nil ?_
  refine sp_then ?_
  refine sw_cond (h1 := fun hg => ?_) (h2 := fun hg => ?_)
  focus
    refine sw_seq ?_
    refine sw_region ?_
    refine r_assign (k := ?_)
    refine sl_nil ?_
    refine sp_then ?_
    refine sw_ret ?_
    refine sp_block_ret ?_
    refine sp_then_ret ?_
  rotate_left 1
  focus
    refine sw_seq ?_
    refine sw_region ?_
    refine r_fieldAddr (k := ?_)
    refine r_load_one (k := ?_)
    refine r_eql (k := ?_)
    refine r_assign (k := ?_)
    refine sl_nil ?_
    refine sp_then ?_
    refine sw_cond (h1 := fun hg => ?_) (h2 := fun hg => ?_)
    focus
      refine sw_seq ?_
      refine sw_region ?_
      refine r_fieldAddr (k := ?_)
      refine r_load_one (k := ?_)
      refine r_leq (k := ?_)
      refine r_move (k := ?_)
      refine g_part (h1 := fun hg => ?_) (h2 := fun hg => ?_)
      focus
        refine gd_yes (k := ?_)
        refine r_fieldAddr (k := ?_)
        refine gd_yes (k := ?_)
        refine r_load_one (k := ?_)
        refine gd_yes (k := ?_)
        refine r_move (k := ?_)
        refine gd_yes (k := ?_)
        refine r_leq (k := ?_)
        refine rd_pick_t (k := ?_)
        refine r_assign (k := ?_)
        refine sl_nil ?_
        refine sp_then ?_
        refine sw_ret ?_
        refine sp_block_ret ?_
        refine sp_then_ret ?_
      rotate_left 1
      focus
        refine gd_no (k := ?_)
        refine gd_no (k := ?_)
        refine gd_no (k := ?_)
        refine gd_no (k := ?_)
        refine rd_pick_f (k := ?_)
        refine r_assign (k := ?_)
        refine sl_nil ?_
        refine sp_then ?_
        refine sw_ret ?_
        refine sp_block_ret ?_
        refine sp_then_ret ?_
      rotate_left 1
    rotate_left 2
    focus
      refine sw_seq ?_
      refine sw_region ?_
      refine r_fieldAddr (k := ?_)
      refine r_load_one (k := ?_)
      refine r_eql (k := ?_)
      refine r_move (k := ?_)
      refine g_part (h1 := fun hg => ?_) (h2 := fun hg => ?_)
      focus
        refine gd_yes (k := ?_)
        refine r_fieldAddr (k := ?_)
        refine gd_yes (k := ?_)
        refine r_load_one (k := ?_)
        refine gd_yes (k := ?_)
        refine r_len (k := ?_)
        refine gd_yes (k := ?_)
        refine r_gtr (k := ?_)
        refine rd_pick_t (k := ?_)
        refine r_assign (k := ?_)
        refine sl_nil ?_
        refine sp_then ?_
        refine sw_cond (h1 := fun hg => ?_) (h2 := fun hg => ?_)
        focus
          refine sw_seq ?_
          refine sw_region ?_
          refine r_assign (k := ?_)
          refine sl_nil ?_
          refine sp_then ?_
          refine sw_ret ?_
          refine sp_block_ret ?_
          refine sp_then_ret ?_
        rotate_left 1
        focus
          refine sw_skip ?_
          refine sp_block ?_
          refine sp_then ?_
          refine sw_seq ?_
          refine sw_region ?_
          refine r_fieldAddr (k := ?_)
          refine r_load_one (k := ?_)
          refine r_leq (k := ?_)
          refine r_move (k := ?_)
          refine g_part (h1 := fun hg => ?_) (h2 := fun hg => ?_)
          focus
            refine gd_yes (k := ?_)
            refine r_fieldAddr (k := ?_)
            refine gd_yes (k := ?_)
            refine r_load_one (k := ?_)
            refine gd_yes (k := ?_)
            refine r_eql (k := ?_)
            refine rd_pick_t (k := ?_)
            refine r_move (k := ?_)
            refine g_part (h1 := fun hg => ?_) (h2 := fun hg => ?_)
            focus
              refine gd_yes (k := ?_)
              refine r_fieldAddr (k := ?_)
              refine gd_yes (k := ?_)
              refine r_load_one (k := ?_)
              refine gd_yes (k := ?_)
              refine r_eql (k := ?_)
              refine rd_pick_t (k := ?_)
              refine r_assign (k := ?_)
              refine sl_nil ?_
              refine sp_then ?_
              refine sw_ret ?_
            rotate_left 1
            focus
              refine gd_no (k := ?_)
              refine gd_no (k := ?_)
              refine gd_no (k := ?_)
              refine rd_pick_f (k := ?_)
              refine r_assign (k := ?_)
              refine sl_nil ?_
              refine sp_then ?_
              refine sw_ret ?_
            rotate_left 1
          rotate_left 2
          focus
            refine gd_no (k := ?_)
            refine gd_no (k := ?_)
            refine gd_no (k := ?_)
            refine rd_pick_f (k := ?_)
            refine r_move (k := ?_)
            refine gd_no (k := ?_)
            refine gd_no (k := ?_)
            refine gd_no (k := ?_)
            refine rd_pick_f (k := ?_)
            refine r_assign (k := ?_)
            refine sl_nil ?_
            refine sp_then ?_
            refine sw_ret ?_
          rotate_left 1
        rotate_left 3
      rotate_left 4
      focus
        refine gd_no (k := ?_)
        refine gd_no (k := ?_)
        refine gd_no (k := ?_)
        refine gd_no (k := ?_)
        refine rd_pick_f (k := ?_)
        refine r_assign (k := ?_)
        refine sl_nil ?_
        refine sp_then ?_
        refine swd_f (h := ?_)
        refine sw_skip ?_
        refine sp_block ?_
        refine sp_then ?_
        refine sw_seq ?_
        refine sw_region ?_
        refine r_fieldAddr (k := ?_)
        refine r_load_one (k := ?_)
        refine r_leq (k := ?_)
        refine r_move (k := ?_)
        refine g_part (h1 := fun hg => ?_) (h2 := fun hg => ?_)
        focus
          refine gd_yes (k := ?_)
          refine r_fieldAddr (k := ?_)
          refine gd_yes (k := ?_)
          refine r_load_one (k := ?_)
          refine gd_yes (k := ?_)
          refine r_eql (k := ?_)
          refine rd_pick_t (k := ?_)
          refine r_move (k := ?_)
          refine g_part (h1 := fun hg => ?_) (h2 := fun hg => ?_)
          focus
            refine gd_yes (k := ?_)
            refine r_fieldAddr (k := ?_)
            refine gd_yes (k := ?_)
            refine r_load_one (k := ?_)
            refine gd_yes (k := ?_)
            refine r_eql (k := ?_)
            refine rd_pick_t (k := ?_)
            refine r_assign (k := ?_)
            refine sl_nil ?_
            refine sp_then ?_
            refine sw_ret ?_
          rotate_left 1
          focus
            refine gd_no (k := ?_)
            refine gd_no (k := ?_)
            refine gd_no (k := ?_)
            refine rd_pick_f (k := ?_)
            refine r_assign (k := ?_)
            refine sl_nil ?_
            refine sp_then ?_
            refine sw_ret ?_
          rotate_left 1
        rotate_left 2
        focus
          refine gd_no (k := ?_)
          refine gd_no (k := ?_)
          refine gd_no (k := ?_)
          refine rd_pick_f (k := ?_)
          refine r_move (k := ?_)
          refine gd_no (k := ?_)
          refine gd_no (k := ?_)
          refine gd_no (k := ?_)
          refine rd_pick_f (k := ?_)
          refine r_assign (k := ?_)
          refine sl_nil ?_
          refine sp_then ?_
          refine sw_ret ?_
        rotate_left 1
      rotate_left 3
    rotate_left 7
  rotate_left 9
  all_goals refine sp_retv rfl rfl (.tmp rfl) rfl rfl ⟨?_, rfl, rfl⟩ (by simp) rfl (by simp)
  all_goals (simp_all [markedV] <;> (intros; omega))

def sameV (a b : AncV) : Bool := decide ((a.tx.toNat : Int) = (b.tx.toNat : Int)) && (decide ((a.size.toNat : Int) = (b.size.toNat : Int)) && (decide (a.root = b.root) && (decide ((a.count.toNat : Int) = (b.count.toNat : Int)) && (decide ((a.live.toNat : Int) = (b.live.toNat : Int)) && (decide ((a.both.toNat : Int) = (b.both.toNat : Int)) && alikeV a.mark b.mark)))))
theorem c_same (G : Res) (a b : AncV) : Ctr Tryd.prog G 27 [a.v, b.v] [] [a.mark.key.res, b.mark.key.res] (ret1 (vb (sameV a b))) := by
  refine Ctr.intro Tryd.func27 (by kernel_rfl) rfl Tryd.ntmps27 rfl rfl rfl fun w X => ?_
  refine sw_seq ?_
  refine sw_region ?_
  refine r_box (k := fun bx => ?_)
  refine r_box (k := fun bx => ?_)
  refine r_assign (k := ?_)
  refine sl_nil ?_
  refine sp_then ?_
  refine sw_seq ?_
  refine sw_region ?_
  refine r_fieldAddr (k := ?_)
  refine r_load_one (k := ?_)
  refine r_fieldAddr (k := ?_)
  refine r_load_one (k := ?_)
  refine r_eql (k := ?_)
  refine r_move (k := ?_)
  refine g_part (h1 := fun hg => ?_) (h2 := fun hg => ?_)
  focus
    refine gd_yes (k := ?_)
    refine r_fieldAddr (k := ?_)
    refine gd_yes (k := ?_)
    refine r_load_one (k := ?_)
    refine gd_yes (k := ?_)
    refine r_fieldAddr (k := ?_)
    refine gd_yes (k := ?_)
    refine r_load_one (k := ?_)
    refine gd_yes (k := ?_)
    refine r_eql (k := ?_)
    refine rd_pick_t (k := ?_)
    refine r_move (k := ?_)
    refine g_part (h1 := fun hg => ?_) (h2 := fun hg => ?_)
    focus
      refine gd_yes (k := ?_)
      refine r_fieldAddr (k := ?_)
      refine gd_yes (k := ?_)
      refine r_load_agg (k := ?_)
      refine gd_yes (k := ?_)
      refine r_fieldAddr (k := ?_)
      refine gd_yes (k := ?_)
      refine r_load_agg (k := ?_)
      refine gd_yes (k := ?_)
    rotate_left 1
    focus
      refine gd_no (k := ?_)
      refine gd_no (k := ?_)
      refine gd_no (k := ?_)
      refine gd_no (k := ?_)
      refine gd_no (k := ?_)
      refine rd_pick_f (k := ?_)
      refine r_move (k := ?_)
      refine gd_no (k := ?_)
      refine gd_no (k := ?_)
      refine gd_no (k := ?_)
      refine gd_no (k := ?_)
      refine gd_no (k := ?_)
      refine rd_pick_f (k := ?_)
      refine r_move (k := ?_)
      refine gd_no (k := ?_)
      refine gd_no (k := ?_)
      refine gd_no (k := ?_)
      refine gd_no (k := ?_)
      refine gd_no (k := ?_)
      refine rd_pick_f (k := ?_)
      refine r_move (k := ?_)
      refine gd_no (k := ?_)
      refine gd_no (k := ?_)
      refine gd_no (k := ?_)
      refine gd_no (k := ?_)
      refine gd_no (k := ?_)
      refine rd_pick_f (k := ?_)
      refine r_move (k := ?_)
      refine gd_no (k := ?_)
      refine gd_no (k := ?_)
      refine gd_no (k := ?_)
      refine gd_no (k := ?_)
      refine gd_no (k := ?_)
      refine rd_pick_f (k := ?_)
      refine r_assign (k := ?_)
      refine sl_nil ?_
      refine sp_then ?_
      refine sw_ret ?_
    rotate_left 1
  rotate_left 2
  focus
    refine gd_no (k := ?_)
    refine gd_no (k := ?_)
    refine gd_no (k := ?_)
    refine gd_no (k := ?_)
    refine gd_no (k := ?_)
    refine rd_pick_f (k := ?_)
    refine r_move (k := ?_)
    refine gd_no (k := ?_)
    refine gd_no (k := ?_)
    refine gd_no (k := ?_)
    refine gd_no (k := ?_)
    refine gd_no (k := ?_)
    refine rd_pick_f (k := ?_)
    refine r_move (k := ?_)
    refine gd_no (k := ?_)
    refine gd_no (k := ?_)
    refine gd_no (k := ?_)
    refine gd_no (k := ?_)
    refine gd_no (k := ?_)
    refine rd_pick_f (k := ?_)
    refine r_move (k := ?_)
    refine gd_no (k := ?_)
    refine gd_no (k := ?_)
    refine gd_no (k := ?_)
    refine gd_no (k := ?_)
    refine gd_no (k := ?_)
    refine rd_pick_f (k := ?_)
    refine r_move (k := ?_)
    refine gd_no (k := ?_)
    refine gd_no (k := ?_)
    refine gd_no (k := ?_)
    refine gd_no (k := ?_)
    refine gd_no (k := ?_)
    refine rd_pick_f (k := ?_)
    refine r_move (k := ?_)
    refine gd_no (k := ?_)
    refine gd_no (k := ?_)
    refine gd_no (k := ?_)
    refine gd_no (k := ?_)
    refine gd_no (k := ?_)
    refine rd_pick_f (k := ?_)
    refine r_assign (k := ?_)
    refine sl_nil ?_
    refine sp_then ?_
    refine sw_ret ?_
  rotate_left 1
  any_goals refine r_eqagg (xs := a.root.cs.toArray) (ys := b.root.cs.toArray) (by exact rfl) (by exact rfl) (by kernel_rfl) (ptr_eq a.root b.root) (by exact rfl) ?_
  focus
    refine rd_pick_t (k := ?_)
    refine r_move (k := ?_)
    refine g_part (h1 := fun hg => ?_) (h2 := fun hg => ?_)
    focus
      refine gd_yes (k := ?_)
      refine r_fieldAddr (k := ?_)
      refine gd_yes (k := ?_)
      refine r_load_one (k := ?_)
      refine gd_yes (k := ?_)
      refine r_fieldAddr (k := ?_)
      refine gd_yes (k := ?_)
      refine r_load_one (k := ?_)
      refine gd_yes (k := ?_)
      refine r_eql (k := ?_)
      refine rd_pick_t (k := ?_)
      refine r_move (k := ?_)
      refine g_part (h1 := fun hg => ?_) (h2 := fun hg => ?_)
      focus
        refine gd_yes (k := ?_)
        refine r_fieldAddr (k := ?_)
        refine gd_yes (k := ?_)
        refine r_load_one (k := ?_)
        refine gd_yes (k := ?_)
        refine r_fieldAddr (k := ?_)
        refine gd_yes (k := ?_)
        refine r_load_one (k := ?_)
        refine gd_yes (k := ?_)
        refine r_eql (k := ?_)
        refine rd_pick_t (k := ?_)
        refine r_move (k := ?_)
        refine g_part (h1 := fun hg => ?_) (h2 := fun hg => ?_)
        focus
          refine gd_yes (k := ?_)
          refine r_fieldAddr (k := ?_)
          refine gd_yes (k := ?_)
          refine r_load_one (k := ?_)
          refine gd_yes (k := ?_)
          refine r_fieldAddr (k := ?_)
          refine gd_yes (k := ?_)
          refine r_load_one (k := ?_)
          refine gd_yes (k := ?_)
          refine r_eql (k := ?_)
          refine rd_pick_t (k := ?_)
          refine r_move (k := ?_)
          refine g_part (h1 := fun hg => ?_) (h2 := fun hg => ?_)
          focus
            refine gd_yes (k := ?_)
            refine r_fieldAddr (k := ?_)
            refine gd_yes (k := ?_)
            refine r_load_agg (k := ?_)
            refine gd_yes (k := ?_)
            refine r_fieldAddr (k := ?_)
            refine gd_yes (k := ?_)
            refine r_load_agg (k := ?_)
            refine gd_yes (k := ?_)
          rotate_left 1
          focus
            refine gd_no (k := ?_)
            refine gd_no (k := ?_)
            refine gd_no (k := ?_)
            refine gd_no (k := ?_)
            refine gd_no (k := ?_)
            refine rd_pick_f (k := ?_)
            refine r_assign (k := ?_)
            refine sl_nil ?_
            refine sp_then ?_
            refine sw_ret ?_
          rotate_left 1
        rotate_left 2
        focus
          refine gd_no (k := ?_)
          refine gd_no (k := ?_)
          refine gd_no (k := ?_)
          refine gd_no (k := ?_)
          refine gd_no (k := ?_)
          refine rd_pick_f (k := ?_)
          refine r_move (k := ?_)
          refine gd_no (k := ?_)
          refine gd_no (k := ?_)
          refine gd_no (k := ?_)
          refine gd_no (k := ?_)
          refine gd_no (k := ?_)
          refine rd_pick_f (k := ?_)
          refine r_assign (k := ?_)
          refine sl_nil ?_
          refine sp_then ?_
          refine sw_ret ?_
        rotate_left 1
      rotate_left 3
      focus
        refine gd_no (k := ?_)
        refine gd_no (k := ?_)
        refine gd_no (k := ?_)
        refine gd_no (k := ?_)
        refine gd_no (k := ?_)
        refine rd_pick_f (k := ?_)
        refine r_move (k := ?_)
        refine gd_no (k := ?_)
        refine gd_no (k := ?_)
        refine gd_no (k := ?_)
        refine gd_no (k := ?_)
        refine gd_no (k := ?_)
        refine rd_pick_f (k := ?_)
        refine r_move (k := ?_)
        refine gd_no (k := ?_)
        refine gd_no (k := ?_)
        refine gd_no (k := ?_)
        refine gd_no (k := ?_)
        refine gd_no (k := ?_)
        refine rd_pick_f (k := ?_)
        refine r_assign (k := ?_)
        refine sl_nil ?_
        refine sp_then ?_
        refine sw_ret ?_
      rotate_left 1
    rotate_left 4
    focus
      refine gd_no (k := ?_)
      refine gd_no (k := ?_)
      refine gd_no (k := ?_)
      refine gd_no (k := ?_)
      refine gd_no (k := ?_)
      refine rd_pick_f (k := ?_)
      refine r_move (k := ?_)
      refine gd_no (k := ?_)
      refine gd_no (k := ?_)
      refine gd_no (k := ?_)
      refine gd_no (k := ?_)
      refine gd_no (k := ?_)
      refine rd_pick_f (k := ?_)
      refine r_move (k := ?_)
      refine gd_no (k := ?_)
      refine gd_no (k := ?_)
      refine gd_no (k := ?_)
      refine gd_no (k := ?_)
      refine gd_no (k := ?_)
      refine rd_pick_f (k := ?_)
      refine r_move (k := ?_)
      refine gd_no (k := ?_)
      refine gd_no (k := ?_)
      refine gd_no (k := ?_)
      refine gd_no (k := ?_)
      refine gd_no (k := ?_)
      refine rd_pick_f (k := ?_)
      refine r_assign (k := ?_)
      refine sl_nil ?_
      refine sp_then ?_
      refine sw_ret ?_
    rotate_left 1
  rotate_left 5
  rotate_left 1
  rotate_left 1
  any_goals refine r_call1 (c_alike G a.mark b.mark) (by exact rfl) (by exact rfl) (by exact rfl) (by simp) (by exact rfl) ?_
  focus
    refine rd_pick_t (k := ?_)
    refine r_assign (k := ?_)
    refine sl_nil ?_
    refine sp_then ?_
    refine sw_ret ?_
  rotate_left 1
  rotate_left 1
  rotate_left 1
  rotate_left 1
  rotate_left 1
  rotate_left 1
  rotate_left 1
  all_goals refine sp_retv rfl rfl (.tmp rfl) rfl rfl ⟨?_, rfl, rfl⟩ (by simp) rfl (by simp)
  all_goals simp_all [sameV]

def AncV.fine (a : AncV) : Bool := decide ((1 : Int) ≤ (a.tx.toNat : Int)) && (decide ((a.tx.toNat : Int) ≤ 1073741824) && (decide ((32 : Int) ≤ (a.size.toNat : Int)) && (decide ((a.size.toNat : Int) ≤ 256) && (decide ((1 : Int) ≤ (a.live.toNat : Int)) && (decide ((a.live.toNat : Int) ≤ 3) && (decide ((a.both.toNat : Int) ≤ (a.tx.toNat : Int)) && markedV a.mark a.tx))))))
def AncV.right (a : AncV) : Bool :=
  if a.root = PtrV.none then a.fine && decide ((a.count.toNat : Int) = 0)
  else a.fine && (decide ((1 : Int) ≤ (a.count.toNat : Int)) && (a.root.isMeta && (a.root.right (a.size.toNat : Int) && decide ((a.root.birth.toNat : Int) ≤ (a.tx.toNat : Int)))))

theorem c_right (G : Res) (a : AncV) : Ctr Tryd.prog G 15 [a.v] [] [a.mark.key.res] (ret1 (vb a.right)) := by
  refine Ctr.intro Tryd.func15 (by kernel_rfl) rfl Tryd.ntmps15 rfl rfl rfl fun w X => ?_
  refine sw_seq ?_
  refine sw_region ?_
  refine r_box (by exact rfl) (by exact rfl) (by exact rfl) fun bx => ?_
  refine r_assign (by exact rfl) (by exact rfl) ?_
  refine sl_nil ?_
  refine sp_then ?_
  refine sw_cut [(1, .pointer (some ⟨bx, 0, none⟩)), (3, vb a.fine)] [.box bx a.cs 32] [a.mark.key.res] [] ?_ ?_
  · refine sw_region ?_
    refine r_fieldAddr (k := ?_)
    refine r_load_one (k := ?_)
    refine r_geq (k := ?_)
    refine r_move (k := ?_)
    refine g_part (h1 := fun hg => ?_) (h2 := fun hg => ?_)
    focus
      refine gd_yes (k := ?_)
      refine r_fieldAddr (k := ?_)
      refine gd_yes (k := ?_)
      refine r_load_one (k := ?_)
      refine gd_yes (k := ?_)
      refine r_leq (k := ?_)
      refine rd_pick_t (k := ?_)
      refine r_move (k := ?_)
      refine g_part (h1 := fun hg => ?_) (h2 := fun hg => ?_)
      focus
        refine gd_yes (k := ?_)
        refine r_fieldAddr (k := ?_)
        refine gd_yes (k := ?_)
        refine r_load_one (k := ?_)
        refine gd_yes (k := ?_)
        refine r_geq (k := ?_)
        refine rd_pick_t (k := ?_)
        refine r_move (k := ?_)
        refine g_part (h1 := fun hg => ?_) (h2 := fun hg => ?_)
        focus
          refine gd_yes (k := ?_)
          refine r_fieldAddr (k := ?_)
          refine gd_yes (k := ?_)
          refine r_load_one (k := ?_)
          refine gd_yes (k := ?_)
          refine r_leq (k := ?_)
          refine rd_pick_t (k := ?_)
          refine r_move (k := ?_)
          refine g_part (h1 := fun hg => ?_) (h2 := fun hg => ?_)
          focus
            refine gd_yes (k := ?_)
            refine r_fieldAddr (k := ?_)
            refine gd_yes (k := ?_)
            refine r_load_one (k := ?_)
            refine gd_yes (k := ?_)
            refine r_geq (k := ?_)
            refine rd_pick_t (k := ?_)
            refine r_move (k := ?_)
            refine g_part (h1 := fun hg => ?_) (h2 := fun hg => ?_)
            focus
              refine gd_yes (k := ?_)
              refine r_fieldAddr (k := ?_)
              refine gd_yes (k := ?_)
              refine r_load_one (k := ?_)
              refine gd_yes (k := ?_)
              refine r_leq (k := ?_)
              refine rd_pick_t (k := ?_)
              refine r_move (k := ?_)
              refine g_part (h1 := fun hg => ?_) (h2 := fun hg => ?_)
              focus
                refine gd_yes (k := ?_)
                refine r_fieldAddr (k := ?_)
                refine gd_yes (k := ?_)
                refine r_load_one (k := ?_)
                refine gd_yes (k := ?_)
                refine r_fieldAddr (k := ?_)
                refine gd_yes (k := ?_)
                refine r_load_one (k := ?_)
                refine gd_yes (k := ?_)
                refine r_leq (k := ?_)
                refine rd_pick_t (k := ?_)
                refine r_move (k := ?_)
                refine g_part (h1 := fun hg => ?_) (h2 := fun hg => ?_)
                focus
                  refine gd_yes (k := ?_)
                  refine r_fieldAddr (k := ?_)
                  refine gd_yes (k := ?_)
                  refine r_load_agg (k := ?_)
                  refine gd_yes (k := ?_)
                  refine r_fieldAddr (k := ?_)
                  refine gd_yes (k := ?_)
                  refine r_load_one (k := ?_)
                  refine gd_yes (k := ?_)
                rotate_left 1
                focus
                  refine gd_no (k := ?_)
                  refine gd_no (k := ?_)
                  refine gd_no (k := ?_)
                  refine gd_no (k := ?_)
                  refine gd_no (k := ?_)
                  refine rd_pick_f (k := ?_)
                  refine r_assign (k := ?_)
                  refine sl_nil ?_
                rotate_left 1
              rotate_left 2
              focus
                refine gd_no (k := ?_)
                refine gd_no (k := ?_)
                refine gd_no (k := ?_)
                refine gd_no (k := ?_)
                refine gd_no (k := ?_)
                refine rd_pick_f (k := ?_)
                refine r_move (k := ?_)
                refine gd_no (k := ?_)
                refine gd_no (k := ?_)
                refine gd_no (k := ?_)
                refine gd_no (k := ?_)
                refine gd_no (k := ?_)
                refine rd_pick_f (k := ?_)
                refine r_assign (k := ?_)
                refine sl_nil ?_
              rotate_left 1
            rotate_left 3
            focus
              refine gd_no (k := ?_)
              refine gd_no (k := ?_)
              refine gd_no (k := ?_)
              refine rd_pick_f (k := ?_)
              refine r_move (k := ?_)
              refine gd_no (k := ?_)
              refine gd_no (k := ?_)
              refine gd_no (k := ?_)
              refine gd_no (k := ?_)
              refine gd_no (k := ?_)
              refine rd_pick_f (k := ?_)
              refine r_move (k := ?_)
              refine gd_no (k := ?_)
              refine gd_no (k := ?_)
              refine gd_no (k := ?_)
              refine gd_no (k := ?_)
              refine gd_no (k := ?_)
              refine rd_pick_f (k := ?_)
              refine r_assign (k := ?_)
              refine sl_nil ?_
            rotate_left 1
          rotate_left 4
          focus
            refine gd_no (k := ?_)
            refine gd_no (k := ?_)
            refine gd_no (k := ?_)
            refine rd_pick_f (k := ?_)
            refine r_move (k := ?_)
            refine gd_no (k := ?_)
            refine gd_no (k := ?_)
            refine gd_no (k := ?_)
            refine rd_pick_f (k := ?_)
            refine r_move (k := ?_)
            refine gd_no (k := ?_)
            refine gd_no (k := ?_)
            refine gd_no (k := ?_)
            refine gd_no (k := ?_)
            refine gd_no (k := ?_)
            refine rd_pick_f (k := ?_)
            refine r_move (k := ?_)
            refine gd_no (k := ?_)
            refine gd_no (k := ?_)
            refine gd_no (k := ?_)
            refine gd_no (k := ?_)
            refine gd_no (k := ?_)
            refine rd_pick_f (k := ?_)
            refine r_assign (k := ?_)
            refine sl_nil ?_
          rotate_left 1
        rotate_left 5
        focus
          refine gd_no (k := ?_)
          refine gd_no (k := ?_)
          refine gd_no (k := ?_)
          refine rd_pick_f (k := ?_)
          refine r_move (k := ?_)
          refine gd_no (k := ?_)
          refine gd_no (k := ?_)
          refine gd_no (k := ?_)
          refine rd_pick_f (k := ?_)
          refine r_move (k := ?_)
          refine gd_no (k := ?_)
          refine gd_no (k := ?_)
          refine gd_no (k := ?_)
          refine rd_pick_f (k := ?_)
          refine r_move (k := ?_)
          refine gd_no (k := ?_)
          refine gd_no (k := ?_)
          refine gd_no (k := ?_)
          refine gd_no (k := ?_)
          refine gd_no (k := ?_)
          refine rd_pick_f (k := ?_)
          refine r_move (k := ?_)
          refine gd_no (k := ?_)
          refine gd_no (k := ?_)
          refine gd_no (k := ?_)
          refine gd_no (k := ?_)
          refine gd_no (k := ?_)
          refine rd_pick_f (k := ?_)
          refine r_assign (k := ?_)
          refine sl_nil ?_
        rotate_left 1
      rotate_left 6
      focus
        refine gd_no (k := ?_)
        refine gd_no (k := ?_)
        refine gd_no (k := ?_)
        refine rd_pick_f (k := ?_)
        refine r_move (k := ?_)
        refine gd_no (k := ?_)
        refine gd_no (k := ?_)
        refine gd_no (k := ?_)
        refine rd_pick_f (k := ?_)
        refine r_move (k := ?_)
        refine gd_no (k := ?_)
        refine gd_no (k := ?_)
        refine gd_no (k := ?_)
        refine rd_pick_f (k := ?_)
        refine r_move (k := ?_)
        refine gd_no (k := ?_)
        refine gd_no (k := ?_)
        refine gd_no (k := ?_)
        refine rd_pick_f (k := ?_)
        refine r_move (k := ?_)
        refine gd_no (k := ?_)
        refine gd_no (k := ?_)
        refine gd_no (k := ?_)
        refine gd_no (k := ?_)
        refine gd_no (k := ?_)
        refine rd_pick_f (k := ?_)
        refine r_move (k := ?_)
        refine gd_no (k := ?_)
        refine gd_no (k := ?_)
        refine gd_no (k := ?_)
        refine gd_no (k := ?_)
        refine gd_no (k := ?_)
        refine rd_pick_f (k := ?_)
        refine r_assign (k := ?_)
        refine sl_nil ?_
      rotate_left 1
    rotate_left 7
    focus
      refine gd_no (k := ?_)
      refine gd_no (k := ?_)
      refine gd_no (k := ?_)
      refine rd_pick_f (k := ?_)
      refine r_move (k := ?_)
      refine gd_no (k := ?_)
      refine gd_no (k := ?_)
      refine gd_no (k := ?_)
      refine rd_pick_f (k := ?_)
      refine r_move (k := ?_)
      refine gd_no (k := ?_)
      refine gd_no (k := ?_)
      refine gd_no (k := ?_)
      refine rd_pick_f (k := ?_)
      refine r_move (k := ?_)
      refine gd_no (k := ?_)
      refine gd_no (k := ?_)
      refine gd_no (k := ?_)
      refine rd_pick_f (k := ?_)
      refine r_move (k := ?_)
      refine gd_no (k := ?_)
      refine gd_no (k := ?_)
      refine gd_no (k := ?_)
      refine rd_pick_f (k := ?_)
      refine r_move (k := ?_)
      refine gd_no (k := ?_)
      refine gd_no (k := ?_)
      refine gd_no (k := ?_)
      refine gd_no (k := ?_)
      refine gd_no (k := ?_)
      refine rd_pick_f (k := ?_)
      refine r_move (k := ?_)
      refine gd_no (k := ?_)
      refine gd_no (k := ?_)
      refine gd_no (k := ?_)
      refine gd_no (k := ?_)
      refine gd_no (k := ?_)
      refine rd_pick_f (k := ?_)
      refine r_assign (k := ?_)
      refine sl_nil ?_
    rotate_left 1
    any_goals refine r_call1 (c_marked G a.mark a.tx) (by exact rfl) (by exact rfl) (by exact rfl) (by simp) (by exact rfl) ?_
    focus
      refine rd_pick_t (k := ?_)
      refine r_assign (k := ?_)
      refine sl_nil ?_
    rotate_left 1
    rotate_left 1
    rotate_left 1
    rotate_left 1
    rotate_left 1
    rotate_left 1
    rotate_left 1
    rotate_left 1
    all_goals refine sp_re (t := 3) (v' := vb a.fine) rfl ?_ (sp_cut (by repeat' (first | trivial | exact rfl | apply And.intro)) (by repeat' (first | trivial | exact .head _ | apply And.intro | apply List.Mem.tail)))
    all_goals (simp_all [AncV.fine] <;> (intros; omega))
  · refine sw_seq ?_
    refine sw_seq ?_
    refine sw_region ?_
    refine r_fieldAddr (k := ?_)
    refine r_load_agg (k := ?_)
    refine r_call1 (c_none G a.root) (by exact rfl) (by exact rfl) (by exact rfl) (by simp) (by exact rfl) ?_
    refine sl_nil ?_
    refine sp_then ?_
    refine sw_cond rfl (fun h => ?_) (fun h => ?_)
    · have h := of_decide_eq_true h
      refine sw_seq ?_
      refine sw_region ?_
      refine r_move (k := ?_)
      refine r_move (k := ?_)
      refine g_part (h1 := fun hg => ?_) (h2 := fun hg => ?_)
      focus
        refine gd_yes (k := ?_)
        refine r_fieldAddr (k := ?_)
        refine gd_yes (k := ?_)
        refine r_load_one (k := ?_)
        refine gd_yes (k := ?_)
        refine r_eql (k := ?_)
        refine rd_pick_t (k := ?_)
        refine r_assign (k := ?_)
        refine sl_nil ?_
        refine sp_then ?_
        refine sw_ret ?_
        refine sp_then_ret ?_
      rotate_left 1
      focus
        refine gd_no (k := ?_)
        refine gd_no (k := ?_)
        refine gd_no (k := ?_)
        refine rd_pick_f (k := ?_)
        refine r_assign (k := ?_)
        refine sl_nil ?_
        refine sp_then ?_
        refine sw_ret ?_
        refine sp_then_ret ?_
      rotate_left 1
      all_goals refine sp_retv rfl rfl (.tmp rfl) rfl rfl ⟨?_, rfl, rfl⟩ (by simp) rfl (by simp)
      all_goals simp_all [AncV.right]
    · have h := of_decide_eq_false h
      refine sw_skip ?_
      refine sp_then ?_
      refine sw_seq ?_
      refine sw_region ?_
      refine r_move (k := ?_)
      refine r_move (k := ?_)
      refine g_part (h1 := fun hg => ?_) (h2 := fun hg => ?_)
      focus
        refine gd_yes (k := ?_)
        refine r_fieldAddr (k := ?_)
        refine gd_yes (k := ?_)
        refine r_load_one (k := ?_)
        refine gd_yes (k := ?_)
        refine r_geq (k := ?_)
        refine rd_pick_t (k := ?_)
        refine r_move (k := ?_)
        refine g_part (h1 := fun hg => ?_) (h2 := fun hg => ?_)
        focus
          refine gd_yes (k := ?_)
          refine r_fieldAddr (k := ?_)
          refine gd_yes (k := ?_)
          refine r_load_agg (k := ?_)
          refine gd_yes (k := ?_)
        rotate_left 1
        focus
          refine gd_no (k := ?_)
          refine gd_no (k := ?_)
          refine gd_no (k := ?_)
          refine rd_pick_f (k := ?_)
          refine r_move (k := ?_)
          refine gd_no (k := ?_)
          refine gd_no (k := ?_)
          refine gd_no (k := ?_)
          refine gd_no (k := ?_)
          refine gd_no (k := ?_)
          refine gd_no (k := ?_)
          refine rd_pick_f (k := ?_)
          refine r_move (k := ?_)
          refine gd_no (k := ?_)
          refine gd_no (k := ?_)
          refine gd_no (k := ?_)
          refine gd_no (k := ?_)
          refine gd_no (k := ?_)
          refine gd_no (k := ?_)
          refine rd_pick_f (k := ?_)
          refine r_assign (k := ?_)
          refine sl_nil ?_
          refine sp_then ?_
          refine sw_ret ?_
        rotate_left 1
      rotate_left 2
      focus
        refine gd_no (k := ?_)
        refine gd_no (k := ?_)
        refine gd_no (k := ?_)
        refine rd_pick_f (k := ?_)
        refine r_move (k := ?_)
        refine gd_no (k := ?_)
        refine gd_no (k := ?_)
        refine gd_no (k := ?_)
        refine rd_pick_f (k := ?_)
        refine r_move (k := ?_)
        refine gd_no (k := ?_)
        refine gd_no (k := ?_)
        refine gd_no (k := ?_)
        refine gd_no (k := ?_)
        refine gd_no (k := ?_)
        refine gd_no (k := ?_)
        refine rd_pick_f (k := ?_)
        refine r_move (k := ?_)
        refine gd_no (k := ?_)
        refine gd_no (k := ?_)
        refine gd_no (k := ?_)
        refine gd_no (k := ?_)
        refine gd_no (k := ?_)
        refine gd_no (k := ?_)
        refine rd_pick_f (k := ?_)
        refine r_assign (k := ?_)
        refine sl_nil ?_
        refine sp_then ?_
        refine sw_ret ?_
      rotate_left 1
      any_goals refine r_call1 (c_meta G a.root) (by exact rfl) (by exact rfl) (by exact rfl) (by simp) (by exact rfl) ?_
      focus
        refine rd_pick_t (k := ?_)
        refine r_move (k := ?_)
        refine g_part (h1 := fun hg => ?_) (h2 := fun hg => ?_)
        focus
          refine gd_yes (k := ?_)
          refine r_fieldAddr (k := ?_)
          refine gd_yes (k := ?_)
          refine r_load_agg (k := ?_)
          refine gd_yes (k := ?_)
          refine r_fieldAddr (k := ?_)
          refine gd_yes (k := ?_)
          refine r_load_one (k := ?_)
          refine gd_yes (k := ?_)
          refine r_cv_16_i (k := ?_)
          refine gd_yes (k := ?_)
        rotate_left 1
        focus
          refine gd_no (k := ?_)
          refine gd_no (k := ?_)
          refine gd_no (k := ?_)
          refine gd_no (k := ?_)
          refine gd_no (k := ?_)
          refine gd_no (k := ?_)
          refine rd_pick_f (k := ?_)
          refine r_move (k := ?_)
          refine gd_no (k := ?_)
          refine gd_no (k := ?_)
          refine gd_no (k := ?_)
          refine gd_no (k := ?_)
          refine gd_no (k := ?_)
          refine gd_no (k := ?_)
          refine rd_pick_f (k := ?_)
          refine r_assign (k := ?_)
          refine sl_nil ?_
          refine sp_then ?_
          refine sw_ret ?_
        rotate_left 1
      rotate_left 2
      rotate_left 1
      rotate_left 1
      any_goals refine r_call1 (c_pright G a.root (a.size.toNat : Int)) (by exact rfl) (by exact rfl) (by exact rfl) (by simp) (by exact rfl) ?_
      focus
        refine rd_pick_t (k := ?_)
        refine r_move (k := ?_)
        refine g_part (h1 := fun hg => ?_) (h2 := fun hg => ?_)
        focus
          refine gd_yes (k := ?_)
          refine r_fieldAddr (k := ?_)
          refine gd_yes (k := ?_)
          refine r_fieldAddr (k := ?_)
          refine gd_yes (k := ?_)
          refine r_load_one (k := ?_)
          refine gd_yes (k := ?_)
          refine r_fieldAddr (k := ?_)
          refine gd_yes (k := ?_)
          refine r_load_one (k := ?_)
          refine gd_yes (k := ?_)
          refine r_leq (k := ?_)
          refine rd_pick_t (k := ?_)
          refine r_assign (k := ?_)
          refine sl_nil ?_
          refine sp_then ?_
          refine sw_ret ?_
        rotate_left 1
        focus
          refine gd_no (k := ?_)
          refine gd_no (k := ?_)
          refine gd_no (k := ?_)
          refine gd_no (k := ?_)
          refine gd_no (k := ?_)
          refine gd_no (k := ?_)
          refine rd_pick_f (k := ?_)
          refine r_assign (k := ?_)
          refine sl_nil ?_
          refine sp_then ?_
          refine sw_ret ?_
        rotate_left 1
      rotate_left 2
      rotate_left 1
      rotate_left 1
      rotate_left 1
      all_goals refine sp_retv rfl rfl (.tmp rfl) rfl rfl ⟨?_, rfl, rfl⟩ (by simp) rfl (by simp)
      all_goals (simp_all [AncV.right] <;> (intros; omega))
end Go.Proofs.YtjahiohlekdhoaaDoor

namespace Go.Proofs.YtjahiohlekdhoaaDoor
open Go
set_option maxHeartbeats 4000000
set_option maxRecDepth 4000
attribute [local irreducible] SW SL SP RA Then FQ IQ LoopQ RQ AQ NX CutQ Exit.noGoto

def AncV.nums (a : AncV) : List (UInt64 × Nat) := [(a.tx.toUInt64, 4), (a.size.toUInt64, 2), (0, 0), (a.count.toUInt64, 4), (a.live.toUInt64, 1), (a.both.toUInt64, 4), (a.mark.on.toUInt64, 1), (a.mark.disk.toUInt64, 1), (a.mark.since.toUInt64, 4)]
def nElt (p : UInt64 × Nat) (vs : List Value) : Res := Res.pure (vs = [v64 p.1, vi (p.2 : Int)])
def numsV (l : List (UInt64 × Nat)) : List Value := l.map fun p => v64 p.1
def widthsV (l : List (UInt64 × Nat)) : List Value := l.map fun p => vi (p.2 : Int)

theorem c_numbers (G : Res) (a : AncV) : Ctr Tryd.prog G 45 [a.v] [] [] (retF fun v Φ' => ∃ b1 b3, v = .func (.func 81) #[] #[.pointer (some ⟨b1, 0, none⟩), .pointer (some ⟨b3, 0, none⟩)] ∧ Φ' = [Res.mem (some ⟨b1, 0, none⟩) a.cs, Res.mem (some ⟨b3, 0, none⟩) (widthsV a.nums)]) := by
  refine Ctr.intro Tryd.func45 (by kernel_rfl) rfl Tryd.ntmps45 rfl rfl rfl fun w X => ?_
  refine sw_seq ?_
  refine sw_region ?_
  refine r_box (k := fun bx => ?_)
  refine r_assign (k := ?_)
  refine sl_nil ?_
  refine sp_then ?_
  refine sw_seq ?_
  refine sw_region ?_
  refine r_buildP (widthsV a.nums) (parts := [(0, .const (vi 4)), (1, .const (vi 2)), (2, .const (vi 0)), (3, .const (vi 4)), (4, .const (vi 1)), (5, .const (vi 4)), (6, .const (vi 1)), (7, .const (vi 1)), (8, .const (vi 4))]) (by exact rfl) (by kernel_rfl) (by exact rfl) ?_
  refine r_alloc (by exact z119) (by exact rfl) (by exact rfl) fun b3 => ?_
  refine r_store_all (k := ?_)
  refine sl_nil ?_
  refine sp_then ?_
  refine sw_seq ?_
  refine sw_region ?_
  refine r_clos (k := ?_)
  refine r_assign (k := ?_)
  refine sl_nil ?_
  refine sp_then ?_
  refine sw_ret ?_
  refine sp_freeze ?_
  refine sp_freeze ?_
  refine sp_retv rfl rfl (.tmp rfl) rfl rfl ⟨rfl, _, _, rfl, rfl⟩ (by simp) rfl (by simp)

theorem i_numbers (G : Res) (b1 b3 : Nat) (a : AncV) : ICtr Tryd.prog G 81 [.pointer (some ⟨b1, 0, none⟩), .pointer (some ⟨b3, 0, none⟩)] [] [Res.mem (some ⟨b1, 0, none⟩) a.cs, Res.mem (some ⟨b3, 0, none⟩) (widthsV a.nums)] nElt a.nums := by
  refine ICtr.intro Tryd.func81 (by kernel_rfl) rfl Tryd.ntmps81 rfl rfl (fun _ => rfl) fun σ J Y go A l s0 w' X M hgo hA hY => ?_
  have hnl : a.nums.length = 9 := rfl
  refine sw_seq ?_
  refine sw_region ?_
  refine r_fieldAddr (k := ?_)
  refine r_load_fr1 (k := ?_)
  refine r_cv_32_64 (k := ?_)
  refine r_fieldAddr (k := ?_)
  refine r_load_fr1 (k := ?_)
  refine r_cv_16_64 (k := ?_)
  refine r_fieldAddr (k := ?_)
  refine r_load_fr1 (k := ?_)
  refine r_cv_32_64 (k := ?_)
  refine r_fieldAddr (k := ?_)
  refine r_load_fr1 (k := ?_)
  refine r_cv_8_64 (k := ?_)
  refine r_fieldAddr (k := ?_)
  refine r_load_fr1 (k := ?_)
  refine r_cv_32_64 (k := ?_)
  refine r_fieldAddr (k := ?_)
  refine r_fieldAddr (k := ?_)
  refine r_load_fr1 (k := ?_)
  refine r_cv_8_64 (k := ?_)
  refine r_fieldAddr (k := ?_)
  refine r_fieldAddr (k := ?_)
  refine r_load_fr1 (k := ?_)
  refine r_cv_8_64 (k := ?_)
  refine r_fieldAddr (k := ?_)
  refine r_fieldAddr (k := ?_)
  refine r_load_fr1 (k := ?_)
  refine r_cv_32_64 (k := ?_)
  refine r_buildP (numsV a.nums) (parts := [(0, .tmp 8), (1, .tmp 11), (2, .const (.int .u64 0)), (3, .tmp 14), (4, .tmp 17), (5, .tmp 20), (6, .tmp 24), (7, .tmp 28), (8, .tmp 32)]) (by exact rfl) (by kernel_rfl) (by exact rfl) ?_
  refine r_move (k := ?_)
  refine sl_nil ?_
  refine sp_then ?_
  refine sw_block ?_
  refine sw_loop (ι := { p : Nat × σ // p.1 ≤ 9 ∧ At Y go A s0 a.nums p.2 (a.nums.drop p.1) })
    (fun p => [(0, yv l), (2, .pointer (some ⟨b3, 0, none⟩)), (33, .agg (numsV a.nums).toArray), (34, vi (p.1.1 : Int))]) (fun _ => []) (fun _ => [Res.mem (some ⟨b3, 0, none⟩) (widthsV a.nums)]) (fun p => [J p.1.2]) (fun p => 9 - p.1.1) ⟨(0, s0), by simp, .start hgo hA⟩ ?_ fun i => ?_
  · exact Ent.mk' (by repeat' (first | trivial | exact rfl | apply And.intro)) (by repeat' (first | trivial | exact .head _ | apply And.intro | apply List.Mem.tail))
  obtain ⟨⟨i, s⟩, hi, hr⟩ := i
  dsimp only at hi hr ⊢
  refine sw_seq ?_
  refine sw_region ?_
  refine r_lss (k := ?_)
  refine sl_nil ?_
  refine sp_then ?_
  refine sw_seq ?_
  refine sw_cond rfl (fun h => ?_) (fun h => ?_)
  · have h := of_decide_eq_true h
    have hi' : i < a.nums.length := by omega
    have hr := hr.of (drop_cons a.nums i hi')
    refine sw_skip ?_
    refine sp_then ?_
    refine sw_seq ?_
    refine sw_block ?_
    refine sw_seq ?_
    refine sw_region ?_
    refine r_move (k := ?_)
    refine r_index (cs := numsV a.nums) (v := v64 a.nums[i].1) (by exact ta rfl) (by exact tz rfl) (by exact rfl) (by exact rfl) (by omega) (by omega) (by exact Int.toNat_natCast _) (by simp [numsV, hi']) (by exact rfl) ?_
    refine r_assign (k := ?_)
    refine r_assign (k := ?_)
    refine sl_nil ?_
    refine sp_then ?_
    refine sw_seq ?_
    refine sw_region ?_
    refine r_move (k := ?_)
    refine r_move (k := ?_)
    refine r_move (k := ?_)
    refine r_idx_arr (k := ?_)
    refine r_load_fr1 (v := vi (a.nums[i].2 : Int)) (by exact tz rfl) (by exact rfl) (by iterate 24 (first | exact .head _ | apply List.Mem.tail | skip)) (by simp [widthsV, hi']) (by exact rfl) ?_
    refine r_yield hY hr.go' hr.give (by exact rfl) (by exact rfl) (el := a.nums[i]) (fun _ _ _ => rfl) (by exact rfl) ?_
    refine r_not (k := ?_)
    refine sl_nil ?_
    refine sp_then ?_
    cases hg : go (Y s a.nums[i])
    · refine swd_t (h := ?_)
      refine sw_ret ?_
      refine sp_block_ret ?_
      refine sp_then_ret ?_
      refine sp_loop_ret ?_
      refine sp_block_ret ?_
      refine sp_iret rfl rfl rfl ⟨hr.stop hg, rfl, rfl⟩ (by simp) rfl (by simp) rfl
    · refine swd_f (h := ?_)
      refine sw_skip ?_
      refine sp_block ?_
      refine sp_then ?_
      refine sw_region ?_
      refine r_add64 (k := ?_)
      refine r_move (k := ?_)
      refine sl_nil ?_
      refine sp_loop (ι := { p : Nat × σ // p.1 ≤ 9 ∧ At Y go A s0 a.nums p.2 (a.nums.drop p.1) }) ⟨(i + 1, Y s a.nums[i]), by dsimp only; omega, hr.next hg⟩ ?_ ?_
      · dsimp only; omega
      · exact Ent.mk' (by repeat' (first | trivial | exact rfl | apply And.intro)) (by repeat' (first | trivial | exact .head _ | apply And.intro | apply List.Mem.tail))
  · have h := of_decide_eq_false h
    obtain rfl : i = 9 := by omega
    have hr := hr.of (show a.nums.drop 9 = [] from rfl)
    refine sw_exit ?_
    refine sp_then_exit ?_
    refine sp_loop_exit ?_
    refine sp_block_exit ?_
    refine sp_inorm rfl rfl rfl ⟨hr.done, rfl, rfl⟩ (by simp) rfl (by simp) rfl
end Go.Proofs.YtjahiohlekdhoaaDoor

namespace Go.Proofs.YtjahiohlekdhoaaDoor
open Go
set_option maxHeartbeats 4000000
set_option maxRecDepth 4000
attribute [local irreducible] SW SL SP RA Then FQ IQ LoopQ RQ AQ NX CutQ Exit.noGoto

/-- An anchor, its key's bytes as they are. -/
structure AncP where
  tx : UInt32
  size : UInt16
  root : PtrV
  count : UInt32
  live : UInt8
  both : UInt32
  on : UInt8
  disk : UInt8
  since : UInt32
  key : List UInt8
  deriving DecidableEq
def AncV.pure (a : AncV) : AncP := ⟨a.tx, a.size, a.root, a.count, a.live, a.both, a.mark.on, a.mark.disk, a.mark.since, a.mark.key.xs⟩
def AncP.zero : AncP := ⟨0, 0, PtrV.none, 0, 0, 0, 0, 0, 0, []⟩
def AncP.withKey (a : AncP) (k : BS) : AncV := ⟨a.tx, a.size, a.root, a.count, a.live, a.both, ⟨a.on, a.disk, a.since, k⟩⟩
/-- A cut of a page that changes no more. -/
def cutP (b : Nat) (p : List UInt8) (l h : Nat) : BS := ⟨some ⟨b, l, none⟩, 256 - l, (p.drop l).take (h - l)⟩
theorem cutP_v (b : Nat) (p : List UInt8) (hp : p.length = 256) (l h : Nat) (hh : h ≤ 256) : (cutP b p l h).v = .slice (some ⟨b, l * 1, none⟩) (h - l) (256 - l) := by
  have : ((p.drop l).take (h - l)).length = h - l := by simp; omega
  simp only [cutP, BS.v, this, Nat.mul_one]
theorem cutP_ok (b : Nat) (p : List UInt8) (hp : p.length = 256) (l h : Nat) (hh : h ≤ 256) : (cutP b p l h).ok :=
  ⟨by simp only [cutP, List.length_take, List.length_drop]; omega, by show 256 - l ≤ maxLen; unfold maxLen; omega⟩
theorem cutP_res {b : Nat} {p : List UInt8} {l h : Nat} {V : Av} {w : World} (hm : (Res.mem (some ⟨b, 0, none⟩) (bv p)).p V w) : (cutP b p l h).res.p V w := by
  intro i v hv
  have e : bv (cutP b p l h).xs = part' (bv p) l (h - l) := (bv_cut p l (h - l)).symm
  rw [e] at hv
  obtain ⟨h1, h2⟩ := part'_get hv
  obtain ⟨a, ha, hn, hc⟩ := hm _ _ h2
  cases ha
  refine ⟨_, rfl, hn, ?_⟩
  rw [addr_add] at hc ⊢
  rw [← hc]
  congr 2; omega

def badP (n : UInt8) (p : List UInt8) : Bool := decide ((n.toNat : Int) ≠ 65) || decide (((unle (p.drop 248)).toNat : Int) ≠ ((sum (p.take 248)).toNat : Int))

/-- The state of Decode's loop. -/
structure DS where
  rest : List UInt8
  l : List UInt64
  i : Nat
  root : PtrV
def takeN (d : DS) (x : UInt64 × Nat) : DS := if x.2 = 0 then ⟨d.rest.drop 17, d.l, d.i + 1, ptake d.rest⟩ else ⟨d.rest.drop x.2, d.l.set d.i (unle (d.rest.take x.2)), d.i + 1, d.root⟩
def admD (d : DS) (x : UInt64 × Nat) : Prop := x.2 ≤ 8 ∧ 17 ≤ d.rest.length ∧ d.i < 9 ∧ d.l.length = 9
theorem adm_take {go : DS → Bool} : ∀ (L : List (UInt64 × Nat)) (d : DS), (∀ q ∈ L, q.2 ≤ 8) → d.i + L.length ≤ 9 → 17 * L.length ≤ d.rest.length → d.l.length = 9 → Adm takeN go admD d L
  | [], _, _, _, _, _ => trivial
  | x :: l, d, hq, hi, hr, hl => by
    have h8 := hq x (.head _)
    simp only [List.length_cons] at hi hr
    refine ⟨⟨h8, by omega, by omega, hl⟩, fun _ => adm_take l _ (fun q h => hq q (.tail _ h)) ?_ ?_ ?_⟩
    · unfold takeN; split <;> (dsimp only; omega)
    · unfold takeN; split <;> (simp only [List.length_drop]; omega)
    · unfold takeN; split <;> simp [hl]
def ancWith (r : PtrV) : AncV := ({ AncP.zero with root := r } : AncP).withKey BS.nil

/-- What the numbers' loop comes to. -/
def decD (p : List UInt8) : DS := (ancWith PtrV.none).nums.foldl takeN ⟨(p.drop 1).take 247, List.replicate 9 0, 0, PtrV.none⟩
def DS.anc (d : DS) (key : List UInt8) : AncP := ⟨(d.l.getD 0 0).toUInt32, (d.l.getD 1 0).toUInt16, d.root, (d.l.getD 3 0).toUInt32, (d.l.getD 4 0).toUInt8, (d.l.getD 5 0).toUInt32, (d.l.getD 6 0).toUInt8, (d.l.getD 7 0).toUInt8, (d.l.getD 8 0).toUInt32, key⟩
/-- What Decode tells of what the numbers' loop comes to. -/
def decR (d : DS) : AncP × Int := match d.rest with
  | [] => (AncP.zero, 50)
  | m :: r => if (takeB m r 8).2.2 = 0 ∧ ((d.anc (takeB m r 8).1).withKey ⟨none, 0, (takeB m r 8).1⟩).right = true ∧ (takeB m r 8).2.1.any nonzero = false then (d.anc (takeB m r 8).1, 0) else (AncP.zero, 50)
/-- What Decode tells of a page n :: l. -/
def decV (n : UInt8) (p : List UInt8) : AncP × Int := bif badP n p then (AncP.zero, 50) else decR (decD p)
theorem marked_pure (a b : MkV) (tx : UInt32) (h1 : a.on = b.on) (h2 : a.disk = b.disk) (h3 : a.since = b.since) (h4 : a.key.xs = b.key.xs) : markedV a tx = markedV b tx := by
  unfold markedV; rw [h1, h2, h3, h4]
theorem right_pure {a b : AncV} (h : a.pure = b.pure) : a.right = b.right := by
  obtain ⟨h1, h2, h3, h4, h5, h6, h7, h8, h9, h10⟩ := AncP.mk.inj h
  have hm := marked_pure a.mark b.mark b.tx h7 h8 h9 h10
  unfold AncV.right AncV.fine
  rw [h1, h2, h3, h4, h5, h6, hm]

theorem takeN_len (d : DS) (x : UInt64 × Nat) : (takeN d x).l.length = d.l.length := by unfold takeN; split <;> simp
theorem foldN_len : ∀ (L : List (UInt64 × Nat)) (d : DS), (L.foldl takeN d).l.length = d.l.length
  | [], _ => rfl
  | x :: l, d => (foldN_len l _).trans (takeN_len d x)
theorem decD_len (p : List UInt8) (_ : p.length = 256) : (decD p).l.length = 9 := (foldN_len _ _).trans (by simp)
theorem decD_rest (p : List UInt8) (hp : p.length = 256) : (decD p).rest.length = 209 := by
  simp [decD, AncV.nums, takeN, hp]
theorem nine {α : Type} {l : List α} (h : l.length = 9) : ∃ a b c d e f g i j, l = [a, b, c, d, e, f, g, i, j] := by
  match l, h with
  | [a, b, c, d, e, f, g, i, j], _ => exact ⟨a, b, c, d, e, f, g, i, j, rfl⟩

theorem c_decode (n : UInt8) (l : List UInt8) (hp : (n :: l).length = 256) : Ctr Tryd.prog GW 16 [.agg (bv (n :: l)).toArray] [] [] (retF fun v Φ' => ∃ a : AncV, v = .tuple #[a.v, vi (decV n (n :: l)).2] ∧ a.mark.key.ok ∧ a.pure = (decV n (n :: l)).1 ∧ Φ' = [a.mark.key.res]) := by
  refine Ctr.intro Tryd.func16 (by kernel_rfl) rfl Tryd.ntmps16 rfl rfl rfl fun w X => ?_
  refine sw_seq ?_
  refine sw_region ?_
  refine r_box (cs := bv (n :: l)) (by exact rfl) rfl (by exact rfl) fun b1 => ?_
  refine o_freeze ?_
  refine r_alloc (by exact z32) (cs := (AncP.zero.withKey BS.nil).cs) (by kernel_rfl) (by exact rfl) fun b2 => ?_
  refine r_assign (k := ?_)
  refine sl_nil ?_
  refine sp_then ?_
  refine sw_seq ?_
  refine sw_seq ?_
  refine sw_region ?_
  obtain ⟨p, hpe⟩ : ∃ p, p = n :: l := ⟨_, rfl⟩
  rw [← hpe] at hp ⊢
  have hp0 : (bv p)[0 + 0 * 1]? = some (v8 n) := by rw [hpe]; rfl
  refine r_cut_arr (l := 248) (h := 256) (len := 256) (by exact ta rfl) (by exact rfl) ⟨_, rfl⟩ rfl (by omega) (by omega) (by omega) (by exact rfl) ?_
  refine r_re (t := 14) (v' := (cutP b1 p 248 256).v) rfl (cutP_v b1 p hp 248 256 (by omega)).symm ?_
  refine f_have (φ := (cutP b1 p 248 256).res) (fun V w hw => cutP_res (hw _ (.head _))) ?_
  refine r_callF (c_take GW (cutP b1 p 248 256) (cutP_ok b1 p hp _ _ (by omega)) 8 (by decide) (by decide) (by simp [cutP]; omega)) (by exact rfl) (by exact rfl) (by exact rfl) (by simp) (by exact rfl) ?_
  rintro _ _ ⟨r0, rfl, hr0, hx0, rfl⟩
  have e0 : unle ((cutP b1 p 248 256).xs.take 8) = unle (p.drop 248) := by
    congr 1
    have hl8 : (p.drop 248).length = 8 := by simp [hp]
    simp only [cutP]
    rw [List.take_of_length_le (by simp [hl8]), List.take_of_length_le (by simp [hl8])]
  rw [e0]
  refine r_move (k := ?_)
  refine r_ext (k := ?_)
  refine r_ext (k := ?_)
  refine r_ext (k := ?_)
  refine r_assign (k := ?_)
  refine r_assign (k := ?_)
  refine r_assign (k := ?_)
  refine sl_nil ?_
  refine sp_then ?_
  refine sw_cut [(1, .pointer (some ⟨b1, 0, none⟩)), (2, .pointer (some ⟨b2, 0, none⟩)), (3, vi 0), (28, vb (badP n p))] [.box b2 (AncP.zero.withKey BS.nil).cs 32] [Res.mem (some ⟨b1, 0, none⟩) (bv p)] [] ?_ ?_
  · refine sw_region ?_
    refine r_idx_arr (k := ?_)
    refine r_load_fr1 (by exact tz rfl) (by exact rfl) (by iterate 24 (first | exact .head _ | apply List.Mem.tail | skip)) hp0 (by exact rfl) ?_
    refine r_neq (k := ?_)
    refine r_move (k := ?_)
    refine g_part (h1 := fun hg => ?_) (h2 := fun hg => ?_)
    focus
      refine gd_no (k := ?_)
      refine gd_no (k := ?_)
      refine gd_no (k := ?_)
      refine gd_no (k := ?_)
      refine gd_no (k := ?_)
      refine rd_pick_t (k := ?_)
      refine sl_nil ?_
    rotate_left 1
    focus
      refine gd_yes (k := ?_)
      refine r_move (k := ?_)
      refine gd_yes (k := ?_)
    rotate_left 1
    · refine sp_re (t := 28) (v' := vb (badP n p)) rfl ?_ (sp_cut (by repeat' (first | trivial | exact rfl | apply And.intro)) (by repeat' (first | trivial | exact .head _ | apply And.intro | apply List.Mem.tail)))
      simp_all [badP]
    · refine r_cut_arr (l := 0) (h := 248) (len := 256) (by exact ta rfl) (by exact rfl) rfl ⟨_, rfl⟩ (by omega) (by omega) (by omega) (by exact rfl) ?_
      refine r_re (t := 24) (v' := (cutP b1 p 0 248).v) rfl (cutP_v b1 p hp 0 248 (by omega)).symm ?_
      refine gd_yes (k := ?_)
      refine r_lit (vs := [(cutP b1 p 0 248).v]) (xs := [.tmp 24]) (cells := [(cutP b1 p 0 248).v]) (by exact tl rfl) (by exact z28) (by exact rfl) (by exact rfl) (by intro v hv; simp at hv; subst hv; rfl) (by decide) (by decide) (by exact rfl) (by exact rfl) (by exact rfl) fun q => ?_
      refine o_row fun ba cap e h1 h2 h3 => ?_
      cases e
      refine f_have (φ := Res.all [cutP b1 p 0 248] BS.res) (fun V w h q hq => ?_) ?_
      · simp at hq
        subst hq
        exact cutP_res (h _ (by iterate 24 (first | exact .head _ | apply List.Mem.tail | skip)))
      refine gd_yes (k := ?_)
      refine r_call1 (c_sum GW (some ⟨q, 0, none⟩) 1 [cutP b1 p 0 248] (by intro p' hp'; simp at hp'; subst hp'; exact cutP_ok b1 p hp _ _ (by omega)) (by simp [maxLen])) (by exact rfl) (by exact rfl) (by exact rfl) (by simp [partsV]) (by exact rfl) ?_
      refine gd_yes (k := ?_)
      refine r_neq (k := ?_)
      refine rd_pick_f (k := ?_)
      refine sl_nil ?_
      refine sp_re (t := 28) (v' := vb (badP n p)) rfl ?_ (sp_cut (by repeat' (first | trivial | exact rfl | apply And.intro)) (by repeat' (first | trivial | exact .head _ | apply And.intro | apply List.Mem.tail)))
      simp_all [badP, flat, cutP]
  refine sw_cond rfl (fun h => ?_) (fun h => ?_)
  · have e : decV n p = (AncP.zero, 50) := by unfold decV; rw [h]; rfl
    rw [e]
    refine sw_seq ?_
    refine sw_region ?_
    refine r_load_all (k := ?_)
    refine r_store_all (k := ?_)
    refine r_assign (k := ?_)
    refine sl_nil ?_
    refine sp_then ?_
    refine sw_ret ?_
    refine sp_then_ret ?_
    refine sp_of_sl (fun h => f_have (φ := BS.nil.res) (fun V w hw => nil_res) h) ?_
    refine sp_ret2 rfl rfl (.agg rfl (tz rfl) rfl (.head _)) (.tmp rfl) rfl rfl ⟨rfl, AncP.zero.withKey BS.nil, rfl, ⟨Nat.le_refl _, Nat.zero_le _⟩, rfl, rfl⟩ (by simp) rfl (by simp; exact .inl rfl)
  · refine sw_skip ?_
    refine sp_then ?_
    refine sw_seq ?_
    refine sw_region ?_
    refine r_alloc (by exact z95) (by exact rfl) (by exact rfl) fun b7 => ?_
    refine sl_nil ?_
    refine sp_then ?_
    refine sw_seq ?_
    refine sw_region ?_
    refine r_cut_arr (l := 1) (h := 248) (len := 256) (by exact ta rfl) (by exact rfl) ⟨_, rfl⟩ ⟨_, rfl⟩ (by omega) (by omega) (by omega) (by exact rfl) ?_
    refine r_re (t := 30) (v' := (cutP b1 p 1 248).v) rfl (cutP_v b1 p hp 1 248 (by omega)).symm ?_
    refine f_have (φ := (cutP b1 p 1 248).res) (fun V w hw => cutP_res (hw _ (by iterate 24 (first | exact .head _ | apply List.Mem.tail | skip)))) ?_
    refine r_alloc (by exact z28) (by exact rfl) (by exact rfl) fun b8 => ?_
    refine r_alloc (by exact z3) (by exact rfl) (by exact rfl) fun b9 => ?_
    refine r_store_all (k := ?_)
    refine r_store_all (k := ?_)
    refine sl_nil ?_
    refine sp_then ?_
    refine sw_seq ?_
    refine sw_seq ?_
    refine sw_region ?_
    refine r_load_all (k := ?_)
    refine r_callF (c_numbers GW (ancWith PtrV.none)) (by exact rfl) (by exact rfl) (by exact rfl) (by simp) (by exact rfl) ?_
    rintro _ _ ⟨q1, q3, rfl, rfl⟩
    refine f_have (φ := Res.pure ((cutP b1 p 1 248).xs = (p.drop 1).take 247)) (fun _ _ _ => rfl) ?_
    refine f_set [Res.mem (some ⟨q1, 0, none⟩) (ancWith PtrV.none).cs, Res.mem (some ⟨q3, 0, none⟩) (widthsV (ancWith PtrV.none).nums), Res.pure ((cutP b1 p 1 248).xs = (p.drop 1).take 247), (cutP b1 p 1 248).res, Res.mem (some ⟨b1, 0, none⟩) (bv p)] (fun V w hw φ hφ => hw φ (by simp at hφ ⊢; rcases hφ with rfl | rfl | rfl | rfl | rfl <;> simp)) ?_
    refine sl_nil ?_
    refine sp_then ?_
    refine sw_block ?_
    refine sw_rangeA (ι := { s : BS // s.ok }) (i_numbers GW q1 q3 (ancWith PtrV.none)) (fun d i => [.box b9 [vi (d.i : Int)] 3, .box b8 [i.1.v] 28, .box b7 (d.l.map v64) 95, .box b2 (ancWith d.root).cs 32]) (fun d i => [Res.pure (i.1.xs = d.rest), i.1.res, Res.mem (some ⟨b1, 0, none⟩) (bv p)]) takeN admD ⟨(p.drop 1).take 247, List.replicate 9 0, 0, PtrV.none⟩ ⟨cutP b1 p 1 248, cutP_ok b1 p hp _ _ (by omega)⟩ rfl rfl rfl (adm_take _ _ (by intro q hq; simp [AncV.nums] at hq; rcases hq with rfl | rfl | rfl | rfl | rfl | rfl | rfl | rfl | rfl <;> simp) (by simp [AncV.nums]) (by simp [AncV.nums]; omega) (by simp)) (fun φ h => List.mem_append_left _ h) (fun φ h => .tail _ (.tail _ h)) (fun _ _ => rfl) rfl (fun x vs V w h => by rw [show vs = _ from h]; rfl) ?_ ?_
    · rintro l mk rec w X U K d ⟨i, hi⟩ x vs hrec ⟨h8, h17, hi9, hl9⟩ ht
      refine w_pure ?_
      rintro rfl
      refine w_pure ?_
      intro hx
      dsimp only at hx ⊢
      refine sw_region ?_
      refine r_assign (k := ?_)
      refine sl_nil ?_
      refine sp_asgR hrec rfl ?_
      dsimp only [pull, push, two, List.drop, List.take, List.cons_append, List.nil_append]
      refine sw_block ?_
      refine sw_seq ?_
      refine sw_seq ?_
      refine sw_region ?_
      refine r_move (k := ?_)
      refine r_eql (k := ?_)
      refine sl_nil ?_
      refine sp_then ?_
      refine sw_cond rfl (fun h => ?_) (fun h => ?_)
      · have h := of_decide_eq_true h
        have e2 : takeN d x = ⟨d.rest.drop 17, d.l, d.i + 1, ptake d.rest⟩ := if_pos (by omega)
        refine sw_region ?_
        refine r_load_one (k := ?_)
        refine r_callF (c_ptake i hi (by rw [hx]; exact h17)) (by exact rfl) (by exact rfl) (by exact rfl) (by simp) (by exact rfl) ?_
        rintro _ _ ⟨r, rfl, hr, hxr, rfl⟩
        rw [hx] at hxr
        rw [hx]
        refine r_move (k := ?_)
        refine r_ext (k := ?_)
        refine r_ext (k := ?_)
        refine r_ext (k := ?_)
        refine r_fieldAddr (k := ?_)
        refine r_store (vs := (ptake d.rest).cs) (cs' := (ancWith (ptake d.rest)).cs) (by exact tz rfl) (by exact rfl) (by exact rfl) (by iterate 24 (first | exact .hd | apply Upd.tl | skip)) rfl rfl rfl (Nat.le_of_ble_eq_true rfl) rfl ?_
        refine r_store_all (k := ?_)
        refine sl_nil ?_
        refine sp_then ?_
        refine sw_region ?_
        refine r_load_one (k := ?_)
        refine r_add64 (k := ?_)
        refine r_store_all (k := ?_)
        refine sl_nil ?_
        refine sp_block ?_
        rw [e2]
        refine sp_of_sl (fun h => f_have (φ := Res.pure (r.xs = d.rest.drop 17)) (fun _ _ _ => hxr) h) ?_
        refine sp_round (ι := { s : BS // s.ok }) (i' := ⟨r, hr⟩) ht hrec ?_ ?_ ?_
        · rfl
        · exact List.Sublist.refl _
        · simp
      · have h := of_decide_eq_false h
        have e2 : takeN d x = ⟨d.rest.drop x.2, d.l.set d.i (unle (d.rest.take x.2)), d.i + 1, d.root⟩ := if_neg (by omega)
        refine sw_draw [(none, .box b9 [vi (d.i : Int)] 3), (some 10, .box b8 [i.v] 28)] [i.res, Res.mem (some ⟨b1, 0, none⟩) (bv p)] [0, 1, 2, 3, 4, 5, 6, 7, 8, 9, 10] mix (by kernel_rfl) rfl ?_
        refine ra_first 0 [(none, .box b9 [vi (d.i : Int)] 3)] [1, 2, 3, 4, 5, 6, 7, 8, 9, 10] (hq := by first | exact q_load_one | exact q_load_all | exact q_load_fr1 | exact q_load_fr) (k := ?_)
        refine ra_first 1 [(some 10, .box b8 [i.v] 28)] [2, 3, 4, 5, 6, 7, 8, 9, 10] (hq := by first | exact q_load_one | exact q_load_all | exact q_load_fr1 | exact q_load_fr) (k := ?_)
        refine ra_first 2 [] [3, 4, 5, 6, 7, 8, 9, 10] (hq := by exact q_move) (k := ?_)
        refine ra1 (i := 3) [4, 5, 6, 7, 8, 9, 10] (h := ?_)
        refine r_callF (c_take GW i hi x.2 (by omega) h8 (by rw [hx]; omega)) (by exact rfl) (by exact rfl) (by exact rfl) (by simp) (by exact rfl) ?_
        rintro _ _ ⟨r, rfl, hr, hxr, rfl⟩
        rw [hx] at hxr
        rw [hx]
        refine sl_nil ?_
        refine sp_nx (k := ?_)
        refine ra_first 4 [] [5, 6, 7, 8, 9, 10] (hq := by exact q_move) (k := ?_)
        refine ra_first 5 [] [6, 7, 8, 9, 10] (hq := by exact q_ext) (k := ?_)
        refine ra_first 6 [] [7, 8, 9, 10] (hq := by exact q_ext) (k := ?_)
        refine ra_first 7 [] [8, 9, 10] (hq := by exact q_ext) (k := ?_)
        refine ra_first 8 [] [9, 10] (hq := by exact q_idx_arr) (k := ?_)
        refine ra1 (i := 9) [10] (h := ?_)
        refine r_store1 (cs := d.l.map v64) (by exact tz rfl) (by exact rfl) (by exact rfl) (by exact rfl) rfl (by iterate 24 (first | exact .hd | apply Upd.tl | skip)) (by simp [Nat.blt_eq, hl9]; omega) rfl ?_
        refine sl_nil ?_
        refine sp_nx (k := ?_)
        refine ra1 (i := 10) [] (h := ?_)
        refine r_store_all (k := ?_)
        refine sl_nil ?_
        refine sp_nx (k := ?_)
        refine ra_done ?_
        refine sp_then ?_
        refine sw_region ?_
        refine r_load_one (k := ?_)
        refine r_add64 (k := ?_)
        refine r_store_all (k := ?_)
        refine sl_nil ?_
        refine sp_block ?_
        rw [e2]
        refine sp_of_sl (fun h => f_have (φ := Res.pure (r.xs = d.rest.drop x.2)) (fun _ _ _ => hxr) h) ?_
        refine sp_eqB (B' := two rec l mk .busy none [.box b9 [vi ((d.i + 1 : Nat) : Int)] 3, .box b8 [r.v] 28, .box b7 ((d.l.set d.i (unle (d.rest.take x.2))).map v64) 95, .box b2 (ancWith d.root).cs 32]) (by simp [two, List.map_set]) ?_
        refine sp_round (ι := { s : BS // s.ok }) (i' := ⟨r, hr⟩) ht hrec ?_ ?_ ?_
        · rfl
        · exact List.Sublist.refl _
        · simp
    · rintro ⟨i, hi⟩ mk
      have hd9 := decD_len p hp
      have hdr := decD_rest p hp
      refine sp_block ?_
      refine sp_then ?_
      refine sw_seq ?_
      refine sw_region ?_
      refine r_load_one (k := ?_)
      refine f_pure fun hx => ?_
      have hx : i.xs = (decD p).rest := hx
      obtain ⟨D, hD⟩ : ∃ D, D = decD p := ⟨_, rfl⟩
      have hdv : decV n p = decR (decD p) := by unfold decV; rw [h]; rfl
      rw [hdv]
      clear hdv
      rw [← hD] at hx hd9 hdr ⊢
      rw [show List.foldl takeN _ _ = D from hD.symm]
      obtain ⟨rs, lst, ii, root⟩ := D
      dsimp only at hx hd9 hdr ⊢
      obtain ⟨m, r, rfl⟩ : ∃ m r, rs = m :: r := by
        cases rs with
        | nil => simp at hdr
        | cons m r => exact ⟨m, r, rfl⟩
      obtain ⟨n0, n1, n2, n3, n4, n5, n6, n7, n8, rfl⟩ : ∃ n0 n1 n2 n3 n4 n5 n6 n7 n8, lst = [n0, n1, n2, n3, n4, n5, n6, n7, n8] := nine hd9
      refine r_callF (c_takeBytes GW i hi m r hx (by simp at hdr; omega) 8) (by exact rfl) (by exact rfl) (by exact rfl) (by simp) (by exact rfl) ?_
      rintro _ _ ⟨kb, rb, rfl, hk, hr, hkx, hrx, rfl⟩
      refine r_move (k := ?_)
      refine r_ext (k := ?_)
      refine r_ext (k := ?_)
      refine r_ext (k := ?_)
      refine r_assign (k := ?_)
      refine r_store_all (k := ?_)
      refine r_assign (k := ?_)
      refine sl_nil ?_
      refine sp_then ?_
      refine sw_seq ?_
      refine sw_draw [(none, .box b7 [v64 n0, v64 n1, v64 n2, v64 n3, v64 n4, v64 n5, v64 n6, v64 n7, v64 n8] 95)] [] [0, 1, 2, 3, 4, 5, 6, 7, 8, 9, 10, 11, 12, 13, 14, 15, 16, 17, 18, 19, 20, 21, 22, 23, 24] mix (by kernel_rfl) rfl ?_
      refine ra_first 0 [] [1, 2, 3, 4, 5, 6, 7, 8, 9, 10, 11, 12, 13, 14, 15, 16, 17, 18, 19, 20, 21, 22, 23, 24] (hq := by exact q_idx_arr) (k := ?_)
      refine ra_first 1 [(none, .box b7 [v64 n0, v64 n1, v64 n2, v64 n3, v64 n4, v64 n5, v64 n6, v64 n7, v64 n8] 95)] [2, 3, 4, 5, 6, 7, 8, 9, 10, 11, 12, 13, 14, 15, 16, 17, 18, 19, 20, 21, 22, 23, 24] (hq := by first | exact q_load_one | exact q_load_all | exact q_load_fr1 | exact q_load_fr) (k := ?_)
      refine ra_first 2 [] [3, 4, 5, 6, 7, 8, 9, 10, 11, 12, 13, 14, 15, 16, 17, 18, 19, 20, 21, 22, 23, 24] (hq := by first | exact q_cv_64_8 | exact q_cv_64_16 | exact q_cv_64_32 | exact q_cv_8_64 | exact q_cv_8_i) (k := ?_)
      refine ra_first 3 [] [4, 5, 6, 7, 8, 9, 10, 11, 12, 13, 14, 15, 16, 17, 18, 19, 20, 21, 22, 23, 24] (hq := by exact q_idx_arr) (k := ?_)
      refine ra_first 4 [(none, .box b7 [v64 n0, v64 n1, v64 n2, v64 n3, v64 n4, v64 n5, v64 n6, v64 n7, v64 n8] 95)] [5, 6, 7, 8, 9, 10, 11, 12, 13, 14, 15, 16, 17, 18, 19, 20, 21, 22, 23, 24] (hq := by first | exact q_load_one | exact q_load_all | exact q_load_fr1 | exact q_load_fr) (k := ?_)
      refine ra_first 5 [] [6, 7, 8, 9, 10, 11, 12, 13, 14, 15, 16, 17, 18, 19, 20, 21, 22, 23, 24] (hq := by first | exact q_cv_64_8 | exact q_cv_64_16 | exact q_cv_64_32 | exact q_cv_8_64 | exact q_cv_8_i) (k := ?_)
      refine ra_first 6 [] [7, 8, 9, 10, 11, 12, 13, 14, 15, 16, 17, 18, 19, 20, 21, 22, 23, 24] (hq := by exact q_idx_arr) (k := ?_)
      refine ra_first 7 [(none, .box b7 [v64 n0, v64 n1, v64 n2, v64 n3, v64 n4, v64 n5, v64 n6, v64 n7, v64 n8] 95)] [8, 9, 10, 11, 12, 13, 14, 15, 16, 17, 18, 19, 20, 21, 22, 23, 24] (hq := by first | exact q_load_one | exact q_load_all | exact q_load_fr1 | exact q_load_fr) (k := ?_)
      refine ra_first 8 [] [9, 10, 11, 12, 13, 14, 15, 16, 17, 18, 19, 20, 21, 22, 23, 24] (hq := by first | exact q_cv_64_8 | exact q_cv_64_16 | exact q_cv_64_32 | exact q_cv_8_64 | exact q_cv_8_i) (k := ?_)
      refine ra_first 9 [] [10, 11, 12, 13, 14, 15, 16, 17, 18, 19, 20, 21, 22, 23, 24] (hq := by exact q_idx_arr) (k := ?_)
      refine ra_first 10 [(none, .box b7 [v64 n0, v64 n1, v64 n2, v64 n3, v64 n4, v64 n5, v64 n6, v64 n7, v64 n8] 95)] [11, 12, 13, 14, 15, 16, 17, 18, 19, 20, 21, 22, 23, 24] (hq := by first | exact q_load_one | exact q_load_all | exact q_load_fr1 | exact q_load_fr) (k := ?_)
      refine ra_first 11 [] [12, 13, 14, 15, 16, 17, 18, 19, 20, 21, 22, 23, 24] (hq := by first | exact q_cv_64_8 | exact q_cv_64_16 | exact q_cv_64_32 | exact q_cv_8_64 | exact q_cv_8_i) (k := ?_)
      refine ra_first 12 [] [13, 14, 15, 16, 17, 18, 19, 20, 21, 22, 23, 24] (hq := by exact q_idx_arr) (k := ?_)
      refine ra_first 13 [(none, .box b7 [v64 n0, v64 n1, v64 n2, v64 n3, v64 n4, v64 n5, v64 n6, v64 n7, v64 n8] 95)] [14, 15, 16, 17, 18, 19, 20, 21, 22, 23, 24] (hq := by first | exact q_load_one | exact q_load_all | exact q_load_fr1 | exact q_load_fr) (k := ?_)
      refine ra_first 14 [] [15, 16, 17, 18, 19, 20, 21, 22, 23, 24] (hq := by first | exact q_cv_64_8 | exact q_cv_64_16 | exact q_cv_64_32 | exact q_cv_8_64 | exact q_cv_8_i) (k := ?_)
      refine ra_first 15 [] [16, 17, 18, 19, 20, 21, 22, 23, 24] (hq := by exact q_fieldAddr) (k := ?_)
      refine ra1 (i := 16) [17, 18, 19, 20, 21, 22, 23, 24] (h := ?_)
      refine r_store1 (k := ?_)
      refine sl_nil ?_
      refine sp_nx (k := ?_)
      refine ra_first 17 [] [18, 19, 20, 21, 22, 23, 24] (hq := by exact q_fieldAddr) (k := ?_)
      refine ra1 (i := 18) [19, 20, 21, 22, 23, 24] (h := ?_)
      refine r_store1 (k := ?_)
      refine sl_nil ?_
      refine sp_nx (k := ?_)
      refine ra_first 19 [] [20, 21, 22, 23, 24] (hq := by exact q_fieldAddr) (k := ?_)
      refine ra1 (i := 20) [21, 22, 23, 24] (h := ?_)
      refine r_store1 (k := ?_)
      refine sl_nil ?_
      refine sp_nx (k := ?_)
      refine ra_first 21 [] [22, 23, 24] (hq := by exact q_fieldAddr) (k := ?_)
      refine ra1 (i := 22) [23, 24] (h := ?_)
      refine r_store1 (k := ?_)
      refine sl_nil ?_
      refine sp_nx (k := ?_)
      refine ra_first 23 [] [24] (hq := by exact q_fieldAddr) (k := ?_)
      refine ra1 (i := 24) [] (h := ?_)
      refine r_store1 (k := ?_)
      refine sl_nil ?_
      refine sp_nx (k := ?_)
      refine ra_done ?_
      refine sp_then ?_
      refine sw_seq ?_
      refine sw_region ?_
      refine r_idx_arr (k := ?_)
      refine r_load_one (k := ?_)
      refine r_cv_64_8 (k := ?_)
      refine r_idx_arr (k := ?_)
      refine r_load_one (k := ?_)
      refine r_cv_64_8 (k := ?_)
      refine r_idx_arr (k := ?_)
      refine r_load_one (k := ?_)
      refine r_cv_64_32 (k := ?_)
      refine r_move (k := ?_)
      refine r_buildP [v8 n6.toUInt8, v8 n7.toUInt8, v32 n8.toUInt32, kb.v] (parts := [(0, .tmp 83), (1, .tmp 86), (2, .tmp 89), (3, .tmp 90)]) (by exact rfl) (by kernel_rfl) (by exact rfl) ?_
      refine r_fieldAddr (k := ?_)
      obtain ⟨A, hA⟩ : ∃ A : AncV, A = ((⟨m :: r, [n0, n1, n2, n3, n4, n5, n6, n7, n8], ii, root⟩ : DS).anc kb.xs).withKey kb := ⟨_, rfl⟩
      refine r_store (vs := [v8 n6.toUInt8, v8 n7.toUInt8, v32 n8.toUInt32, kb.v]) (cs' := A.cs) (by exact tz rfl) (by exact rfl) (by exact rfl) (by iterate 24 (first | exact .hd | apply Upd.tl | skip)) rfl rfl rfl (Nat.le_of_ble_eq_true rfl) (by rw [hA]; rfl) ?_
      have hAk : A.mark.key = kb := by rw [hA]; rfl
      have hAp : A.pure = (⟨m :: r, [n0, n1, n2, n3, n4, n5, n6, n7, n8], ii, root⟩ : DS).anc kb.xs := by rw [hA]; rfl
      have hAr : A.right = (((⟨m :: r, [n0, n1, n2, n3, n4, n5, n6, n7, n8], ii, root⟩ : DS).anc kb.xs).withKey ⟨none, 0, kb.xs⟩).right := right_pure (by rw [hAp]; rfl)
      have hAl : A.cs.length = 14 := rfl
      have hAo : A.cs.all Value.oneCell' = true := rfl
      have hdc : decR ⟨m :: r, [n0, n1, n2, n3, n4, n5, n6, n7, n8], ii, root⟩ = if (takeB m r 8).2.2 = 0 ∧ A.right = true ∧ rb.xs.any nonzero = false then (A.pure, 0) else (AncP.zero, 50) := by
        rw [hAr, hAp, hkx, hrx]; rfl
      rw [hdc]
      clear hdc
      refine sl_nil ?_
      refine sp_then ?_
      refine sw_seq ?_
      refine sw_seq ?_
      refine sw_region ?_
      refine r_move (k := ?_)
      refine r_neq (k := ?_)
      refine r_move (k := ?_)
      refine g_part (h1 := fun hg => ?_) (h2 := fun hg => ?_)
      focus
        refine gd_no (k := ?_)
        refine gd_no (k := ?_)
        refine gd_no (k := ?_)
        refine rd_pick_t (k := ?_)
        refine r_move (k := ?_)
        refine gd_no (k := ?_)
        refine gd_no (k := ?_)
        refine gd_no (k := ?_)
        refine rd_pick_t (k := ?_)
        refine sl_nil ?_
        refine sp_then ?_
        refine swd_t (h := ?_)
        refine sw_seq ?_
        refine sw_region ?_
      rotate_left 1
      focus
        refine gd_yes (k := ?_)
        refine r_load_all (k := ?_)
        refine gd_yes (k := ?_)
      rotate_left 1
      any_goals refine r_call1 (c_right GW A) (by exact rfl) (by exact rfl) (by exact rfl) (by rw [hAk]; simp) (by exact rfl) ?_
      rotate_left 1
      focus
        refine gd_yes (k := ?_)
        refine r_not (k := ?_)
        refine rd_pick_f (k := ?_)
        refine r_move (k := ?_)
        refine g_part (h1 := fun hg => ?_) (h2 := fun hg => ?_)
        focus
          refine gd_no (k := ?_)
          refine gd_no (k := ?_)
          refine gd_no (k := ?_)
          refine rd_pick_t (k := ?_)
          refine sl_nil ?_
          refine sp_then ?_
          refine swd_t (h := ?_)
          refine sw_seq ?_
          refine sw_region ?_
        rotate_left 1
        focus
          refine gd_yes (k := ?_)
          refine r_load_one (k := ?_)
          refine gd_yes (k := ?_)
        rotate_left 1
      rotate_left 2
      any_goals refine r_call1 (c_clean GW rb hr) (by exact rfl) (by exact rfl) (by exact rfl) (by simp) (by exact rfl) ?_
      rotate_left 1
      rotate_left 1
      focus
        refine gd_yes (k := ?_)
        refine r_not (k := ?_)
        refine rd_pick_f (k := ?_)
        refine sl_nil ?_
        refine sp_then ?_
        refine sw_cond (h1 := fun hg => ?_) (h2 := fun hg => ?_)
        focus
          refine sw_seq ?_
          refine sw_region ?_
        rotate_left 1
        focus
          refine sw_skip ?_
          refine sp_then ?_
          refine sw_seq ?_
          refine sw_region ?_
          refine r_load_all (k := ?_)
          refine r_store_all (k := ?_)
          refine r_assign (k := ?_)
          refine sl_nil ?_
          refine sp_then ?_
          refine sw_ret ?_
        rotate_left 1
      rotate_left 2
      any_goals
        (refine r_buildP (AncP.zero.withKey BS.nil).cs (parts := []) (by exact rfl) (by kernel_rfl) (by exact rfl) ?_
         refine r_store_all (k := ?_)
         refine r_assign (k := ?_)
         refine sl_nil ?_
         refine sp_then ?_
         refine sw_ret ?_
         refine sp_then_ret ?_
         refine sp_of_sl (fun h => f_have (φ := BS.nil.res) (fun V w hw => nil_res) h) ?_
         rw [if_neg (by simp_all)]
         refine sp_ret2 rfl rfl (.agg rfl (tz rfl) rfl (.tail _ (.tail _ (.tail _ (.tail _ (.head _)))))) (.tmp rfl) rfl rfl ⟨rfl, AncP.zero.withKey BS.nil, rfl, ⟨Nat.le_refl _, Nat.zero_le _⟩, rfl, rfl⟩ (by simp) rfl (by simp; exact .inl rfl))
      rw [if_pos (by simp_all)]
      refine sp_ret2 rfl rfl (.agg rfl (tz rfl) hAl (.tail _ (.tail _ (.tail _ (.tail _ (.head _)))))) (.tmp rfl) rfl rfl ⟨rfl, A, rfl, by rw [hAk]; exact hk, rfl, rfl⟩ (by simp) rfl (by rw [hAk]; simp)
end Go.Proofs.YtjahiohlekdhoaaDoor

namespace Go.Proofs.YtjahiohlekdhoaaDoor
open Go
set_option maxHeartbeats 4000000
set_option maxRecDepth 4000
attribute [local irreducible] SW SL SP RA Then FQ IQ LoopQ RQ AQ NX CutQ Exit.noGoto

/-- What a loop over an anchor's numbers puts. -/
def putN (a : AncV) (s : List UInt8) (p : UInt64 × Nat) : List UInt8 := if p.2 = 0 then s ++ a.root.bytes else s ++ le p.2 p.1
theorem root_len (x : PtrV) : x.bytes.length = 17 := by rw [PtrV.bytes, packed_len]; rfl
theorem putN_len (a : AncV) (s : List UInt8) (p : UInt64 × Nat) (h : p.2 ≤ 8) : (putN a s p).length ≤ s.length + 17 := by
  unfold putN
  split
  · rw [List.length_append, root_len]; exact Nat.le_refl _
  · rw [List.length_append, le_length]; omega
theorem adm_put (a : AncV) {go : List UInt8 → Bool} : ∀ (L : List (UInt64 × Nat)) (s : List UInt8) (n : Nat), s.length + 17 * L.length ≤ n → (∀ p ∈ L, p.2 ≤ 8) → Adm (putN a) go (fun s p => s.length ≤ n ∧ p.2 ≤ 8) s L
  | [], _, _, _, _ => trivial
  | p :: l, s, n, h, hp => ⟨⟨by simp at h; omega, hp p (.head _)⟩, fun _ => adm_put a l _ n (by have := putN_len a s p (hp p (.head _)); simp at h; omega) fun q hq => hp q (.tail _ hq)⟩

/-- The bytes ahead of the key. -/
def AncV.head (a : AncV) : List UInt8 := a.nums.foldl (putN a) [65]
def AncV.body (a : AncV) : List UInt8 := a.head ++ UInt8.ofNat a.mark.key.xs.length :: a.mark.key.xs
def padTo (n : Nat) (l : List UInt8) : List UInt8 := l.take n ++ List.replicate (n - l.length) 0
def AncV.page (a : AncV) : List UInt8 := padTo 248 a.body ++ le 8 (sum (padTo 248 a.body))
def zeros (n : Nat) : List UInt8 := List.replicate n 0
def encV (a : AncV) : List UInt8 × Int := if a.right = true then (a.page, 0) else (zeros 256, 2)

theorem right_key (a : AncV) (h : a.right = true) : a.mark.key.xs.length ≤ 8 := by
  have hf : a.fine = true := by
    unfold AncV.right at h
    split at h
    · exact (Bool.and_eq_true _ _ ▸ h).1
    · exact (Bool.and_eq_true _ _ ▸ h).1
  have hm : markedV a.mark a.tx = true := by
    simp only [AncV.fine, Bool.and_eq_true] at hf
    exact hf.2.2.2.2.2.2.2
  unfold markedV at hm
  split at hm
  · cases hm
  · omega
theorem head_len (a : AncV) : a.head.length = 39 := by simp [AncV.head, AncV.nums, putN, le_length, root_len]
theorem body_len (a : AncV) : a.body.length = 40 + a.mark.key.xs.length := by simp [AncV.body, head_len]; omega
theorem padTo_len (n : Nat) (l : List UInt8) : (padTo n l).length = n := by simp [padTo]; omega
theorem page_len (a : AncV) : a.page.length = 256 := by simp [AncV.page, padTo_len, le_length]
theorem splice_bv (cur vs : List UInt8) (o : Nat) : splice (bv cur) o (bv vs) = bv (cur.take o ++ vs ++ cur.drop (o + vs.length)) := by simp [splice, bv, List.map_take, List.map_drop]
theorem pad_zeros (l : List UInt8) (h : l.length ≤ 248) : (zeros 256).take 0 ++ l ++ (zeros 256).drop (0 + l.length) = padTo 248 l ++ zeros 8 := by
  have e : 256 - l.length = (248 - l.length) + 8 := by omega
  simp only [zeros, padTo, List.take_zero, List.nil_append, List.drop_replicate, Nat.zero_add, List.take_of_length_le h, List.append_assoc, List.replicate_append_replicate, e]

def p248 (b : Nat) (l : List UInt8) : BS := ⟨some ⟨b, 0, none⟩, 256, padTo 248 l⟩
theorem p248_v (b : Nat) (l : List UInt8) : (p248 b l).v = .slice (some ⟨b, 0, none⟩) 248 256 := by simp [p248, BS.v, padTo_len]
theorem p248_ok (b : Nat) (l : List UInt8) : (p248 b l).ok := ⟨by simp [p248, padTo_len], by show 256 ≤ maxLen; decide⟩
theorem page_splice (l m : List UInt8) (h : m.length = 8) : (padTo 248 l ++ zeros 8).take 248 ++ m ++ (padTo 248 l ++ zeros 8).drop (248 + m.length) = padTo 248 l ++ m := by
  have h1 := padTo_len 248 l
  rw [List.take_left' h1, h, List.drop_of_length_le (by simp [h1, zeros])]
  simp

theorem c_encode (a : AncV) (hok : a.mark.key.ok) : Ctr Tryd.prog GW 14 [a.v] [] [a.mark.key.res] (ret1 (.tuple #[.agg (bv (encV a).1).toArray, vi (encV a).2])) := by
  refine Ctr.intro Tryd.func14 (by kernel_rfl) rfl Tryd.ntmps14 rfl rfl rfl fun w X => ?_
  refine sw_seq ?_
  refine sw_region ?_
  refine r_box (by exact rfl) (by exact rfl) (by exact rfl) fun b1 => ?_
  refine r_alloc (by exact z37) (cs := bv (zeros 256)) (by kernel_rfl) (by exact rfl) fun b2 => ?_
  refine r_assign (k := ?_)
  refine sl_nil ?_
  refine sp_then ?_
  refine sw_seq ?_
  refine sw_seq ?_
  refine sw_region ?_
  refine r_load_all (k := ?_)
  refine r_call1 (c_right GW a) (by exact rfl) (by exact rfl) (by exact rfl) (by simp) (by exact rfl) ?_
  refine r_not (k := ?_)
  refine sl_nil ?_
  refine sp_then ?_
  refine sw_cond rfl (fun h => ?_) (fun h => ?_)
  · have h : a.right = false := by simpa using h
    have e : encV a = (zeros 256, 2) := by unfold encV; rw [h]; rfl
    rw [e]
    refine sw_seq ?_
    refine sw_region ?_
    refine r_load_all (k := ?_)
    refine r_store_all (k := ?_)
    refine r_assign (k := ?_)
    refine sl_nil ?_
    refine sp_then ?_
    refine sw_ret ?_
    refine sp_then_ret ?_
    refine sp_ret2 rfl rfl (.agg rfl (tz rfl) rfl (.head _)) (.tmp rfl) rfl rfl ⟨rfl, rfl, rfl⟩ (by simp) rfl (by simp)
  · have h : a.right = true := by simpa using h
    have e : encV a = (a.page, 0) := by unfold encV; rw [h]; rfl
    rw [e]
    refine sw_skip ?_
    refine sp_then ?_
    refine sw_seq ?_
    refine sw_region ?_
    refine r_litB (xs := [.const (.int .u8 65)]) (bs := [65]) (by exact tl rfl) (by exact z5) (by exact rfl) (by exact rfl) (by exact rfl) (by exact rfl) (by exact rfl) fun v h1 h2 => ?_
    refine o_rowB fun s0 hs0 hx0 e => ?_
    subst e
    refine r_alloc (by exact z28) (by exact rfl) (by exact rfl) fun b4 => ?_
    refine r_store_all (k := ?_)
    refine sl_nil ?_
    refine sp_then ?_
    refine sw_seq ?_
    refine sw_seq ?_
    refine sw_region ?_
    refine r_load_all (k := ?_)
    refine f_have (φ := Res.pure (s0.xs = [65])) (fun _ _ _ => hx0) ?_
    refine r_callF (c_numbers GW a) (by exact rfl) (by exact rfl) (by exact rfl) (by simp) (by exact rfl) ?_
    rintro _ _ ⟨q1, q3, rfl, rfl⟩
    refine sl_nil ?_
    refine sp_then ?_
    refine sw_block ?_
    refine sw_rangeA (ι := { s : BS // s.ok }) (i_numbers GW q1 q3 a) (fun _ i => [.box b4 [i.1.v] 28, .box b2 (bv (zeros 256)) 37, .box b1 a.cs 32]) (fun s i => [Res.pure (i.1.xs = s), i.1.res, a.mark.key.res]) (putN a) (fun s p => s.length ≤ 154 ∧ p.2 ≤ 8) [65] ⟨s0, hs0⟩ rfl rfl rfl (adm_put a _ _ _ (by simp [AncV.nums]) (by intro p hp; simp [AncV.nums] at hp; rcases hp with rfl | rfl | rfl | rfl | rfl | rfl | rfl | rfl | rfl <;> simp)) (fun φ h => List.mem_append_left _ h) (fun φ h => List.mem_append_right _ h) (fun _ _ => rfl) rfl (fun x vs V w h => by rw [show vs = _ from h]; rfl) ?_ ?_
    · rintro l mk rec w X U K s ⟨i, hi⟩ x vs hrec ⟨hlen, hw8⟩ ht
      refine w_pure ?_
      rintro rfl
      refine w_pure ?_
      intro hx
      dsimp only at hx ⊢
      refine sw_seq ?_
      refine sw_region ?_
      refine r_assign (k := ?_)
      refine sl_nil ?_
      refine sp_then ?_
      refine sw_region ?_
      refine r_assign (k := ?_)
      refine sl_nil ?_
      refine sp_asgR hrec rfl ?_
      dsimp only [pull, push, two, List.drop, List.take, List.cons_append, List.nil_append]
      refine sw_block ?_
      refine sw_seq ?_
      refine sw_seq ?_
      refine sw_region ?_
      refine r_move (k := ?_)
      refine r_eql (k := ?_)
      refine sl_nil ?_
      refine sp_then ?_
      have hy := putN_len a s x hw8
      refine sw_cond rfl (fun h => ?_) (fun h => ?_)
      · have h := of_decide_eq_true h
        have e2 : putN a s x = s ++ a.root.bytes := if_pos (by omega)
        refine sw_seq ?_
        refine sw_region ?_
        refine r_load_one (k := ?_)
        refine r_fieldAddr (k := ?_)
        refine r_load_agg (k := ?_)
        refine r_callB (c_pput i a.root hi (by rw [hx]; omega)) (by exact rfl) (by exact rfl) (by exact rfl) (by simp) (by exact rfl) fun r hr hxr => ?_
        refine r_store_all (k := ?_)
        refine sl_nil ?_
        refine sp_then ?_
        refine sw_exit ?_
        refine sp_then_exit ?_
        refine sp_block_exit ?_
        refine sp_of_sl (fun h => f_have (φ := Res.pure (r.xs = putN a s x)) (fun _ _ _ => by show _ = _; rw [hxr, hx, e2]) h) ?_
        refine sp_round (ι := { s : BS // s.ok }) (i' := ⟨r, hr⟩) ht hrec ?_ ?_ ?_
        · rfl
        · exact List.Sublist.refl _
        · simp
      · have h := of_decide_eq_false h
        have e2 : putN a s x = s ++ le x.2 x.1 := if_neg (by omega)
        refine sw_skip ?_
        refine sp_then ?_
        refine sw_region ?_
        refine r_load_one (k := ?_)
        refine r_move (k := ?_)
        refine r_move (k := ?_)
        refine r_callB (c_put GW i x.1 x.2 (by omega) hw8 (by rw [hx]; omega)) (by exact rfl) (by exact rfl) (by exact rfl) (by simp) (by exact rfl) fun r hr hxr => ?_
        refine r_store_all (k := ?_)
        refine sl_nil ?_
        refine sp_block ?_
        refine sp_of_sl (fun h => f_have (φ := Res.pure (r.xs = putN a s x)) (fun _ _ _ => by show _ = _; rw [hxr, hx, e2]) h) ?_
        refine sp_round (ι := { s : BS // s.ok }) (i' := ⟨r, hr⟩) ht hrec ?_ ?_ ?_
        · rfl
        · exact List.Sublist.refl _
        · simp
    · rintro ⟨i, hi⟩ mk
      have hk8 := right_key a h
      have hbl := body_len a
      refine sp_block ?_
      refine sp_then ?_
      refine sw_seq ?_
      refine w_pure ?_
      intro hx
      have hx : i.xs = a.head := hx
      have hhl := head_len a
      dsimp only
      refine sw_draw [(none, .box b4 [i.v] 28), (none, .box b1 a.cs 32)] [i.res, a.mark.key.res] [0, 1, 2, 3, 4, 5, 6] mix (by kernel_rfl) rfl ?_
      refine ra_first 0 [] [1, 2, 3, 4, 5, 6] (hq := by exact q_cut_arr (l := 0) (h := 248) (len := 256) (by exact ta rfl) (by exact rfl) rfl ⟨_, rfl⟩ (by omega) (by omega) (by omega)) (k := ?_)
      refine ra_first 1 [(none, .box b4 [i.v] 28)] [2, 3, 4, 5, 6] (hq := by first | exact q_load_one | exact q_load_all | exact q_load_fr1 | exact q_load_fr) (k := ?_)
      refine ra_first 2 [] [3, 4, 5, 6] (hq := by exact q_fieldAddr) (k := ?_)
      refine ra_first 3 [] [4, 5, 6] (hq := by exact q_fieldAddr) (k := ?_)
      refine ra_first 4 [(none, .box b1 a.cs 32)] [5, 6] (hq := by first | exact q_load_one | exact q_load_all | exact q_load_fr1 | exact q_load_fr) (k := ?_)
      refine ra1 (i := 5) [6] (h := ?_)
      refine r_callR (Bp := []) (Br := [.mark mk, .box b4 [i.v] 28, .box b2 (bv (zeros 256)) 37, .box b1 a.cs 32]) (c_putBytes GW i a.mark.key hi hok (by rw [hx, hhl]; omega) (by omega)) (by exact rfl) (by exact rfl) (by exact rfl) (by simp) (by exact rfl) fun v h1 h2 => ?_
      refine o_rowB fun kb hkb hkx e => ?_
      subst e
      have hkx : kb.xs = a.body := by rw [hkx, hx]; rfl
      refine sl_nil ?_
      refine sp_nx (k := ?_)
      refine ra1 (i := 6) [] (h := ?_)
      refine r_copy (nn := kb.xs.length) (news := bv kb.xs) (cur := bv (zeros 256)) (cur' := bv (padTo 248 a.body ++ zeros 8)) (by exact tl rfl) (by exact rfl) (by exact rfl) (by iterate 24 (first | exact .head _ | apply List.Mem.tail | skip)) (by rw [hkx, hbl]; exact Nat.min_eq_left (by omega)) (by rw [bv_len]; exact Nat.le_refl _) (by rw [hkx, hbl]; simp [bv, zeros]; omega) (bv_one _) ?_ (by iterate 24 (first | exact .hd | apply Upd.tl | skip)) (by exact rfl) ?_
      · rw [List.take_of_length_le (by rw [bv_len]; exact Nat.le_refl _), splice_bv, hkx]
        exact congrArg bv (pad_zeros _ (by omega))
      refine sl_nil ?_
      refine sp_nx (k := ?_)
      refine ra_done ?_
      refine sp_then ?_
      refine sw_seq ?_
      refine sw_draw [] [] [0, 1, 2, 3, 4, 5] mix (by kernel_rfl) rfl ?_
      refine ra_first 0 [] [1, 2, 3, 4, 5] (hq := by exact q_cut_arr (l := 248) (h := 256) (len := 256) (by exact ta rfl) (by exact rfl) ⟨_, rfl⟩ rfl (by omega) (by omega) (by omega)) (k := ?_)
      refine ra_first 1 [] [2, 3, 4, 5] (hq := by exact q_cut_arr (l := 0) (h := 248) (len := 256) (by exact ta rfl) (by exact rfl) rfl ⟨_, rfl⟩ (by omega) (by omega) (by omega)) (k := ?_)
      refine ra1 (i := 2) [3, 4, 5] (h := ?_)
      refine r_re (t := 34) (v' := (p248 b2 a.body).v) rfl (p248_v b2 a.body).symm ?_
      refine r_lit (vs := [(p248 b2 a.body).v]) (xs := [.tmp 34]) (cells := [(p248 b2 a.body).v]) (by exact tl rfl) (by exact z28) (by exact rfl) (by exact rfl) (by intro v hv; simp at hv; subst hv; rfl) (by decide) (by decide) (by exact rfl) (by exact rfl) (by exact rfl) fun q => ?_
      refine o_row fun ba cap e h1 h2 h3 => ?_
      cases e
      refine sl_nil ?_
      refine sp_nx (k := ?_)
      refine ra1 (i := 3) [4, 5] (h := ?_)
      refine r_call1L (c_sum GW (some ⟨q, 0, none⟩) 1 [p248 b2 a.body] (by intro p hp; simp at hp; subst hp; exact p248_ok _ _) (by simp [maxLen])) [.box b2 (bv (padTo 248 a.body ++ zeros 8)) 37] (by exact rfl) (by exact rfl) (by exact rfl) ?_ ?_ (by exact rfl) ?_
      · exact .cons _ (.cons _ (.cons_cons _ (.cons _ .slnil)))
      · intro φ hφ
        simp at hφ
        rcases hφ with rfl | rfl
        · exact lent_of (.head _)
        · intro V w hh hv hw p hp
          simp at hp
          subst hp
          have := lent_box (Φ := []) (l := 0) (n := 248) (List.Mem.head (a := Own.box b2 (bv (padTo 248 a.body ++ zeros 8)) 37) []) V w hh hv (by simp)
          rw [bv_cut, List.drop_zero, List.take_left' (padTo_len 248 a.body)] at this
          exact this
      have es : flat [p248 b2 a.body] = padTo 248 a.body := by simp [flat, p248]
      rw [es]
      refine sl_nil ?_
      refine sp_nx (k := ?_)
      refine ra1 (i := 4) [5] (h := ?_)
      refine f_have (φ := BS.nil.res) (fun V w hw => nil_res) ?_
      refine r_callB (c_put GW BS.nil (sum (padTo 248 a.body)) 8 (by decide) (by decide) (by decide)) (by exact rfl) (by exact rfl) (by exact rfl) (by simp) (by exact rfl) fun r hr hxr => ?_
      have hxr : r.xs = le 8 (sum (padTo 248 a.body)) := hxr
      have hrl : r.xs.length = 8 := by rw [hxr, le_length]
      refine sl_nil ?_
      refine sp_nx (k := ?_)
      refine ra1 (i := 5) [] (h := ?_)
      refine r_copy (nn := 8) (news := bv r.xs) (cur := bv (padTo 248 a.body ++ zeros 8)) (cur' := bv a.page) (by exact tl rfl) (by exact rfl) (by exact rfl) (by iterate 24 (first | exact .head _ | apply List.Mem.tail | skip)) (by rw [hrl]; rfl) (by rw [bv_len, hrl]; exact Nat.le_refl _) (by simp [bv, zeros, padTo_len]) (bv_one _) ?_ (by iterate 24 (first | exact .hd | apply Upd.tl | skip)) (by exact rfl) ?_
      · rw [List.take_of_length_le (by rw [bv_len, hrl]; exact Nat.le_refl _), show 248 * 1 = 248 from rfl, splice_bv]
        exact congrArg bv (by rw [page_splice _ _ hrl, hxr]; rfl)
      refine sl_nil ?_
      refine sp_nx (k := ?_)
      refine ra_done ?_
      have hpl : (bv a.page).length = 256 := by rw [bv_len]; exact page_len a
      refine sp_then ?_
      refine sw_seq ?_
      refine sw_region ?_
      refine r_load_all (cs := bv a.page) (by exact tz rfl) (by exact rfl) (by iterate 24 (first | exact .head _ | apply List.Mem.tail | skip)) hpl (by exact rfl) ?_
      refine r_store_all (cs := bv a.page) (vs := bv a.page) (by exact tz rfl) (by exact rfl) (by exact rfl) (by iterate 24 (first | exact .hd | apply Upd.tl | skip)) rfl hpl (bv_one _) hpl ?_
      refine r_assign (by exact rfl) (by exact rfl) ?_
      refine sl_nil ?_
      refine sp_then ?_
      refine sw_ret ?_
      refine sp_ret2 rfl rfl (.agg rfl (tz rfl) hpl (.tail _ (.tail _ (.head _)))) (.tmp rfl) rfl rfl ⟨rfl, rfl, rfl⟩ (by simp) rfl (by simp)
end Go.Proofs.YtjahiohlekdhoaaDoor
