/-
  The walks of package crc.
-/
import Derived.Test.YtjahiohlekdhoaaDoorE14
import Derived.Test.YtjahiohlekdhoaaDoorTab
namespace Go.Proofs.YtjahiohlekdhoaaDoor
open Go
set_option maxHeartbeats 4000000
set_option maxRecDepth 4000
attribute [local irreducible] SW SL SP RA Then FQ IQ LoopQ RQ AQ NX CutQ Exit.noGoto

def rk (c : UInt64) : UInt64 := (c >>> UInt64.ofNat 1) ^^^ (14514072000185962306 * (c &&& 1))
def rkN : Nat → UInt64 → UInt64
  | 0, c => c
  | n + 1, c => rk (rkN n c)
def reckon (b : UInt8) : UInt64 := rkN 8 b.toUInt64

theorem c_reckon (G : Res) (b : UInt8) : Ctr Tryd.prog G 111 [v8 b] [] [] (ret1 (v64 (reckon b))) := by
  refine Ctr.intro Tryd.func111 (by kernel_rfl) rfl Tryd.ntmps111 rfl rfl rfl fun w X => ?_
  refine sw_seq ?_
  refine sw_region ?_
  refine r_assign (k := ?_)
  refine sl_nil ?_
  refine sp_then ?_
  refine sw_seq ?_
  refine sw_region ?_
  refine r_move (k := ?_)
  refine r_cv_8_64 (k := ?_)
  refine r_assign (k := ?_)
  refine sl_nil ?_
  refine sp_then ?_
  refine sw_seq ?_
  refine sw_seq ?_
  refine sw_region ?_
  refine r_move (k := ?_)
  refine sl_nil ?_
  refine sp_then ?_
  refine sw_block ?_
  refine sw_loop (ι := { i : Nat // i ≤ 8 }) (fun i => [(3, v64 (rkN i.1 b.toUInt64)), (6, vi (i.1 : Int))]) (fun _ => []) (fun _ => []) (fun _ => []) (fun i => 8 - i.1) ⟨0, by omega⟩ ?_ fun i => ?_
  · exact Ent.mk' (by repeat' (first | trivial | exact rfl | apply And.intro)) (by repeat' (first | trivial | exact .head _ | exact .tail _ (.head _) | exact .tail _ (.tail _ (.head _)) | exact .tail _ (.tail _ (.tail _ (.head _))) | exact .tail _ (.tail _ (.tail _ (.tail _ (.head _)))) | exact .tail _ (.tail _ (.tail _ (.tail _ (.tail _ (.head _))))) | exact .tail _ (.tail _ (.tail _ (.tail _ (.tail _ (.tail _ (.head _)))))) | exact .tail _ (.tail _ (.tail _ (.tail _ (.tail _ (.tail _ (.tail _ (.head _))))))) | exact .tail _ (.tail _ (.tail _ (.tail _ (.tail _ (.tail _ (.tail _ (.tail _ (.head _)))))))) | exact .tail _ (.tail _ (.tail _ (.tail _ (.tail _ (.tail _ (.tail _ (.tail _ (.tail _ (.head _))))))))) | exact .tail _ (.tail _ (.tail _ (.tail _ (.tail _ (.tail _ (.tail _ (.tail _ (.tail _ (.tail _ (.head _)))))))))) | exact .tail _ (.tail _ (.tail _ (.tail _ (.tail _ (.tail _ (.tail _ (.tail _ (.tail _ (.tail _ (.tail _ (.head _))))))))))) | apply And.intro))
  obtain ⟨i, hi⟩ := i
  dsimp only
  refine sw_seq ?_
  refine sw_region ?_
  refine r_lss (k := ?_)
  refine sl_nil ?_
  refine sp_then ?_
  refine sw_seq ?_
  refine sw_cond rfl (fun h => ?_) (fun h => ?_)
  · have h := of_decide_eq_true h
    refine sw_skip ?_
    refine sp_then ?_
    refine sw_seq ?_
    refine sw_block ?_
    refine sw_region ?_
    refine r_move (k := ?_)
    refine r_shr64 (k := ?_)
    refine r_move (k := ?_)
    refine r_and64c (k := ?_)
    refine r_mul64c (k := ?_)
    refine r_xor64 (k := ?_)
    refine r_assign (k := ?_)
    refine sl_nil ?_
    refine sp_block ?_
    refine sp_then ?_
    refine sw_region ?_
    refine r_add64 (k := ?_)
    refine r_move (k := ?_)
    refine sl_nil ?_
    refine sp_loop (ι := { i : Nat // i ≤ 8 }) ⟨i + 1, by omega⟩ ?_ ?_
    · dsimp only; omega
    · exact Ent.mk' (by repeat' (first | trivial | exact rfl | apply And.intro)) (by repeat' (first | trivial | exact .head _ | exact .tail _ (.head _) | exact .tail _ (.tail _ (.head _)) | exact .tail _ (.tail _ (.tail _ (.head _))) | exact .tail _ (.tail _ (.tail _ (.tail _ (.head _)))) | exact .tail _ (.tail _ (.tail _ (.tail _ (.tail _ (.head _))))) | exact .tail _ (.tail _ (.tail _ (.tail _ (.tail _ (.tail _ (.head _)))))) | exact .tail _ (.tail _ (.tail _ (.tail _ (.tail _ (.tail _ (.tail _ (.head _))))))) | exact .tail _ (.tail _ (.tail _ (.tail _ (.tail _ (.tail _ (.tail _ (.tail _ (.head _)))))))) | exact .tail _ (.tail _ (.tail _ (.tail _ (.tail _ (.tail _ (.tail _ (.tail _ (.tail _ (.head _))))))))) | exact .tail _ (.tail _ (.tail _ (.tail _ (.tail _ (.tail _ (.tail _ (.tail _ (.tail _ (.tail _ (.head _)))))))))) | exact .tail _ (.tail _ (.tail _ (.tail _ (.tail _ (.tail _ (.tail _ (.tail _ (.tail _ (.tail _ (.tail _ (.head _))))))))))) | apply And.intro))
  · have h := of_decide_eq_false h
    obtain rfl : i = 8 := by omega
    refine sw_exit ?_
    refine sp_then_exit ?_
    refine sp_loop_exit ?_
    refine sp_block_exit ?_
    refine sp_then ?_
    refine sw_seq ?_
    refine sw_region ?_
    refine r_move (k := ?_)
    refine r_assign (k := ?_)
    refine sl_nil ?_
    refine sp_then ?_
    refine sw_ret ?_
    refine sp_retv rfl rfl (.tmp rfl) rfl rfl ⟨rfl, rfl, rfl⟩ (by simp) rfl (by simp)

theorem c_step (G : Res) (x : UInt64) (b : UInt8) : Ctr Tryd.prog G 87 [v64 x, v8 b] [] [] (ret1 (v64 (reckon (x.toUInt8 ^^^ b) ^^^ (x >>> 8)))) := by
  refine Ctr.intro Tryd.func87 (by kernel_rfl) rfl Tryd.ntmps87 rfl rfl rfl fun w X => ?_
  refine sw_seq ?_
  refine sw_region ?_
  refine r_assign (k := ?_)
  refine sl_nil ?_
  refine sp_then ?_
  refine sw_seq ?_
  refine sw_region ?_
  refine r_move (k := ?_)
  refine r_cv_64_8 (k := ?_)
  refine r_move (k := ?_)
  refine r_xor8 (k := ?_)
  refine r_call1 (c_reckon _ _) rfl rfl rfl (by simp) rfl ?_
  refine r_move (k := ?_)
  refine r_shr64 (k := ?_)
  refine r_xor64 (k := ?_)
  refine r_assign (k := ?_)
  refine sl_nil ?_
  refine sp_then ?_
  refine sw_ret ?_
  refine sp_retv rfl rfl (.tmp rfl) rfl rfl ⟨rfl, rfl, rfl⟩ (by simp) rfl (by simp)

/-! ### bytes -/
def partsV (ps : List BS) : List Value := ps.map BS.v
def flat (ps : List BS) : List UInt8 := ps.flatMap BS.xs
theorem flat_drop (ps : List BS) (i : Nat) (h : i < ps.length) : flat (ps.drop i) = ps[i].xs ++ flat (ps.drop (i + 1)) := by
  rw [drop_cons ps i h]; rfl

theorem i_bytes (G : Res) (b : Nat) (ba : Option Addr) (cap : Nat) (ps : List BS) (hok : ∀ p ∈ ps, p.ok) (hn : ps.length ≤ maxLen) : ICtr Tryd.prog G 110 [.pointer (some ⟨b, 0, none⟩)] [] [Res.mem (some ⟨b, 0, none⟩) [.slice ba ps.length cap], Res.mem ba (partsV ps), Res.all ps BS.res] bElt (flat ps) := by
  have hn' : ps.length ≤ 9223372036854775807 := hn
  refine ICtr.intro Tryd.func110 (by kernel_rfl) rfl Tryd.ntmps110 rfl rfl (fun _ => rfl) fun σ J Y go A l s0 w X M hgo hA hY => ?_
  refine sw_seq ?_
  refine sw_region ?_
  refine r_load_fr1 (k := ?_)
  refine r_len (k := ?_)
  refine r_move (k := ?_)
  refine sl_nil ?_
  refine sp_then ?_
  refine sw_block ?_
  refine sw_loop (ι := { p : Nat × σ // p.1 ≤ ps.length ∧ At Y go A s0 (flat ps) p.2 (flat (ps.drop p.1)) })
    (fun p => [(0, yv l), (7, .slice ba ps.length cap), (8, vi (ps.length : Int)), (9, vi (p.1.1 : Int))]) (fun _ => []) (fun _ => [Res.mem ba (partsV ps), Res.all ps BS.res]) (fun p => [J p.1.2]) (fun p => ps.length - p.1.1) ⟨(0, s0), by simp, .start hgo hA⟩ ?_ fun i => ?_
  · exact Ent.mk' (by repeat' (first | trivial | exact rfl | apply And.intro)) (by repeat' (first | trivial | exact .head _ | exact .tail _ (.head _) | exact .tail _ (.tail _ (.head _)) | exact .tail _ (.tail _ (.tail _ (.head _))) | exact .tail _ (.tail _ (.tail _ (.tail _ (.head _)))) | exact .tail _ (.tail _ (.tail _ (.tail _ (.tail _ (.head _))))) | exact .tail _ (.tail _ (.tail _ (.tail _ (.tail _ (.tail _ (.head _)))))) | exact .tail _ (.tail _ (.tail _ (.tail _ (.tail _ (.tail _ (.tail _ (.head _))))))) | exact .tail _ (.tail _ (.tail _ (.tail _ (.tail _ (.tail _ (.tail _ (.tail _ (.head _)))))))) | exact .tail _ (.tail _ (.tail _ (.tail _ (.tail _ (.tail _ (.tail _ (.tail _ (.tail _ (.head _))))))))) | exact .tail _ (.tail _ (.tail _ (.tail _ (.tail _ (.tail _ (.tail _ (.tail _ (.tail _ (.tail _ (.head _)))))))))) | exact .tail _ (.tail _ (.tail _ (.tail _ (.tail _ (.tail _ (.tail _ (.tail _ (.tail _ (.tail _ (.tail _ (.head _))))))))))) | apply And.intro))
  obtain ⟨⟨i, s⟩, hi, hr⟩ := i
  dsimp only at hi hr ⊢
  refine sw_seq ?_
  refine sw_region ?_
  refine r_lss (k := ?_)
  refine sl_nil ?_
  refine sp_then ?_
  refine sw_seq ?_
  refine sw_cond rfl (fun h => ?_) (fun h => ?_)
  · have h := of_decide_eq_true h
    have hi' : i < ps.length := by omega
    have hk := (hok _ (List.getElem_mem hi'))
    have hkl : ps[i].xs.length ≤ 9223372036854775807 := Nat.le_trans hk.1 hk.2
    rw [flat_drop ps i hi'] at hr
    refine sw_skip ?_
    refine sp_then ?_
    refine sw_seq ?_
    refine sw_block ?_
    refine sw_seq ?_
    refine sw_region ?_
    refine r_idx (tl rfl) rfl rfl (by omega) (by omega) (by first | exact .head _ | exact .tail _ (.head _) | exact .tail _ (.tail _ (.head _)) | exact .tail _ (.tail _ (.tail _ (.head _))) | exact .tail _ (.tail _ (.tail _ (.tail _ (.head _)))) | exact .tail _ (.tail _ (.tail _ (.tail _ (.tail _ (.head _))))) | exact .tail _ (.tail _ (.tail _ (.tail _ (.tail _ (.tail _ (.head _)))))) | exact .tail _ (.tail _ (.tail _ (.tail _ (.tail _ (.tail _ (.tail _ (.head _))))))) | exact .tail _ (.tail _ (.tail _ (.tail _ (.tail _ (.tail _ (.tail _ (.tail _ (.head _)))))))) | exact .tail _ (.tail _ (.tail _ (.tail _ (.tail _ (.tail _ (.tail _ (.tail _ (.tail _ (.head _))))))))) | exact .tail _ (.tail _ (.tail _ (.tail _ (.tail _ (.tail _ (.tail _ (.tail _ (.tail _ (.tail _ (.head _)))))))))) | exact .tail _ (.tail _ (.tail _ (.tail _ (.tail _ (.tail _ (.tail _ (.tail _ (.tail _ (.tail _ (.tail _ (.head _)))))))))))) (by simp [partsV]) rfl (Int.toNat_natCast _) rfl ?_
    refine r_load_mem1 (v := ps[i].v) (tz rfl) rfl (by first | exact .head _ | exact .tail _ (.head _) | exact .tail _ (.tail _ (.head _)) | exact .tail _ (.tail _ (.tail _ (.head _))) | exact .tail _ (.tail _ (.tail _ (.tail _ (.head _)))) | exact .tail _ (.tail _ (.tail _ (.tail _ (.tail _ (.head _))))) | exact .tail _ (.tail _ (.tail _ (.tail _ (.tail _ (.tail _ (.head _)))))) | exact .tail _ (.tail _ (.tail _ (.tail _ (.tail _ (.tail _ (.tail _ (.head _))))))) | exact .tail _ (.tail _ (.tail _ (.tail _ (.tail _ (.tail _ (.tail _ (.tail _ (.head _)))))))) | exact .tail _ (.tail _ (.tail _ (.tail _ (.tail _ (.tail _ (.tail _ (.tail _ (.tail _ (.head _))))))))) | exact .tail _ (.tail _ (.tail _ (.tail _ (.tail _ (.tail _ (.tail _ (.tail _ (.tail _ (.tail _ (.head _)))))))))) | exact .tail _ (.tail _ (.tail _ (.tail _ (.tail _ (.tail _ (.tail _ (.tail _ (.tail _ (.tail _ (.tail _ (.head _)))))))))))) (by simp [partsV, hi']) rfl ?_
    refine f_have (φ := ps[i].res) (fun V w h => h _ (.tail _ (.head _)) _ (List.getElem_mem hi')) ?_
    refine r_assign (k := ?_)
    refine sl_nil ?_
    refine sp_then ?_
    refine sw_seq ?_
    refine sw_region ?_
    refine r_move (k := ?_)
    refine r_len (k := ?_)
    refine r_move (k := ?_)
    refine sl_nil ?_
    refine sp_then ?_
    refine sw_block ?_
    refine sw_loop (ι := { p : Nat × σ // p.1 ≤ ps[i].xs.length ∧ At Y go A s0 (flat ps) p.2 (ps[i].xs.drop p.1 ++ flat (ps.drop (i + 1))) })
      (fun p => [(0, yv l), (7, .slice ba ps.length cap), (8, vi (ps.length : Int)), (9, vi (i : Int)), (13, ps[i].v), (14, vi (ps[i].xs.length : Int)), (15, vi (p.1.1 : Int))]) (fun _ => []) (fun _ => [ps[i].res, Res.mem ba (partsV ps), Res.all ps BS.res]) (fun p => [J p.1.2]) (fun p => ps[i].xs.length - p.1.1) ⟨(0, s), by simp, hr⟩ ?_ fun j => ?_
    · exact Ent.mk' (by repeat' (first | trivial | exact rfl | apply And.intro)) (by repeat' (first | trivial | exact .head _ | exact .tail _ (.head _) | exact .tail _ (.tail _ (.head _)) | exact .tail _ (.tail _ (.tail _ (.head _))) | exact .tail _ (.tail _ (.tail _ (.tail _ (.head _)))) | exact .tail _ (.tail _ (.tail _ (.tail _ (.tail _ (.head _))))) | exact .tail _ (.tail _ (.tail _ (.tail _ (.tail _ (.tail _ (.head _)))))) | exact .tail _ (.tail _ (.tail _ (.tail _ (.tail _ (.tail _ (.tail _ (.head _))))))) | exact .tail _ (.tail _ (.tail _ (.tail _ (.tail _ (.tail _ (.tail _ (.tail _ (.head _)))))))) | exact .tail _ (.tail _ (.tail _ (.tail _ (.tail _ (.tail _ (.tail _ (.tail _ (.tail _ (.head _))))))))) | exact .tail _ (.tail _ (.tail _ (.tail _ (.tail _ (.tail _ (.tail _ (.tail _ (.tail _ (.tail _ (.head _)))))))))) | exact .tail _ (.tail _ (.tail _ (.tail _ (.tail _ (.tail _ (.tail _ (.tail _ (.tail _ (.tail _ (.tail _ (.head _))))))))))) | apply And.intro))
    obtain ⟨⟨j, s⟩, hj, hr⟩ := j
    dsimp only at hj hr ⊢
    refine sw_seq ?_
    refine sw_region ?_
    refine r_lss (k := ?_)
    refine sl_nil ?_
    refine sp_then ?_
    refine sw_seq ?_
    refine sw_cond rfl (fun h => ?_) (fun h => ?_)
    · have h := of_decide_eq_true h
      have hj' : j < ps[i].xs.length := by omega
      rw [drop_cons _ j hj', List.cons_append] at hr
      refine sw_skip ?_
      refine sp_then ?_
      refine sw_seq ?_
      refine sw_block ?_
      refine sw_seq ?_
      refine sw_region ?_
      refine r_idx (k := ?_)
      refine r_load_mem1 (v := v8 ps[i].xs[j]) (tz rfl) rfl (by first | exact .head _ | exact .tail _ (.head _) | exact .tail _ (.tail _ (.head _)) | exact .tail _ (.tail _ (.tail _ (.head _))) | exact .tail _ (.tail _ (.tail _ (.tail _ (.head _)))) | exact .tail _ (.tail _ (.tail _ (.tail _ (.tail _ (.head _))))) | exact .tail _ (.tail _ (.tail _ (.tail _ (.tail _ (.tail _ (.head _)))))) | exact .tail _ (.tail _ (.tail _ (.tail _ (.tail _ (.tail _ (.tail _ (.head _))))))) | exact .tail _ (.tail _ (.tail _ (.tail _ (.tail _ (.tail _ (.tail _ (.tail _ (.head _)))))))) | exact .tail _ (.tail _ (.tail _ (.tail _ (.tail _ (.tail _ (.tail _ (.tail _ (.tail _ (.head _))))))))) | exact .tail _ (.tail _ (.tail _ (.tail _ (.tail _ (.tail _ (.tail _ (.tail _ (.tail _ (.tail _ (.head _)))))))))) | exact .tail _ (.tail _ (.tail _ (.tail _ (.tail _ (.tail _ (.tail _ (.tail _ (.tail _ (.tail _ (.tail _ (.head _)))))))))))) (by rw [Nat.mul_one]; exact bv_get _ _ hj') rfl ?_
      refine r_assign (k := ?_)
      refine sl_nil ?_
      refine sp_then ?_
      refine sw_seq ?_
      refine sw_region ?_
      refine r_move (k := ?_)
      refine r_move (k := ?_)
      refine r_yield hY hr.go' hr.give rfl rfl (el := ps[i].xs[j]) (fun _ _ _ => rfl) rfl ?_
      refine r_not (k := ?_)
      refine sl_nil ?_
      refine sp_then ?_
      cases hg : go (Y s ps[i].xs[j])
      · refine swd_t (h := ?_)
        refine sw_ret ?_
        refine sp_block_ret ?_
        refine sp_then_ret ?_
        refine sp_loop_ret ?_
        refine sp_block_ret ?_
        refine sp_block_ret ?_
        refine sp_then_ret ?_
        refine sp_loop_ret ?_
        refine sp_block_ret ?_
        refine sp_iret rfl rfl rfl ⟨hr.stop hg, rfl, rfl⟩ (by simp) rfl (by simp) rfl
      · refine swd_f (h := ?_)
        refine sw_skip ?_
        refine sp_block ?_
        refine sp_then ?_
        refine sw_region ?_
        refine r_add64 (k := ?_)
        refine r_move (k := ?_)
        refine sl_nil ?_
        refine sp_loop (ι := { p : Nat × σ // p.1 ≤ ps[i].xs.length ∧ At Y go A s0 (flat ps) p.2 (ps[i].xs.drop p.1 ++ flat (ps.drop (i + 1))) }) ⟨(j + 1, Y s ps[i].xs[j]), by dsimp only; omega, hr.next hg⟩ ?_ ?_
        · dsimp only; omega
        · exact Ent.mk' (by repeat' (first | trivial | exact rfl | apply And.intro)) (by repeat' (first | trivial | exact .head _ | exact .tail _ (.head _) | exact .tail _ (.tail _ (.head _)) | exact .tail _ (.tail _ (.tail _ (.head _))) | exact .tail _ (.tail _ (.tail _ (.tail _ (.head _)))) | exact .tail _ (.tail _ (.tail _ (.tail _ (.tail _ (.head _))))) | exact .tail _ (.tail _ (.tail _ (.tail _ (.tail _ (.tail _ (.head _)))))) | exact .tail _ (.tail _ (.tail _ (.tail _ (.tail _ (.tail _ (.tail _ (.head _))))))) | exact .tail _ (.tail _ (.tail _ (.tail _ (.tail _ (.tail _ (.tail _ (.tail _ (.head _)))))))) | exact .tail _ (.tail _ (.tail _ (.tail _ (.tail _ (.tail _ (.tail _ (.tail _ (.tail _ (.head _))))))))) | exact .tail _ (.tail _ (.tail _ (.tail _ (.tail _ (.tail _ (.tail _ (.tail _ (.tail _ (.tail _ (.head _)))))))))) | exact .tail _ (.tail _ (.tail _ (.tail _ (.tail _ (.tail _ (.tail _ (.tail _ (.tail _ (.tail _ (.tail _ (.head _))))))))))) | apply And.intro))
    · have h := of_decide_eq_false h
      obtain rfl : j = ps[i].xs.length := by omega
      rw [List.drop_length, List.nil_append] at hr
      refine sw_exit ?_
      refine sp_then_exit ?_
      refine sp_loop_exit ?_
      refine sp_block_exit ?_
      refine sp_block ?_
      refine sp_then ?_
      refine sw_region ?_
      refine r_add64 (k := ?_)
      refine r_move (k := ?_)
      refine sl_nil ?_
      refine sp_loop (ι := { p : Nat × σ // p.1 ≤ ps.length ∧ At Y go A s0 (flat ps) p.2 (flat (ps.drop p.1)) }) ⟨(i + 1, s), by dsimp only; omega, hr⟩ ?_ ?_
      · dsimp only; omega
      · exact Ent.mk' (by repeat' (first | trivial | exact rfl | apply And.intro)) (by repeat' (first | trivial | exact .head _ | exact .tail _ (.head _) | exact .tail _ (.tail _ (.head _)) | exact .tail _ (.tail _ (.tail _ (.head _))) | exact .tail _ (.tail _ (.tail _ (.tail _ (.head _)))) | exact .tail _ (.tail _ (.tail _ (.tail _ (.tail _ (.head _))))) | exact .tail _ (.tail _ (.tail _ (.tail _ (.tail _ (.tail _ (.head _)))))) | exact .tail _ (.tail _ (.tail _ (.tail _ (.tail _ (.tail _ (.tail _ (.head _))))))) | exact .tail _ (.tail _ (.tail _ (.tail _ (.tail _ (.tail _ (.tail _ (.tail _ (.head _)))))))) | exact .tail _ (.tail _ (.tail _ (.tail _ (.tail _ (.tail _ (.tail _ (.tail _ (.tail _ (.head _))))))))) | exact .tail _ (.tail _ (.tail _ (.tail _ (.tail _ (.tail _ (.tail _ (.tail _ (.tail _ (.tail _ (.head _)))))))))) | exact .tail _ (.tail _ (.tail _ (.tail _ (.tail _ (.tail _ (.tail _ (.tail _ (.tail _ (.tail _ (.tail _ (.head _))))))))))) | apply And.intro))
  · have h := of_decide_eq_false h
    obtain rfl : i = ps.length := by omega
    rw [List.drop_length] at hr
    refine sw_exit ?_
    refine sp_then_exit ?_
    refine sp_loop_exit ?_
    refine sp_block_exit ?_
    refine sp_inorm rfl rfl rfl ⟨hr.done, rfl, rfl⟩ (by simp) rfl (by simp) rfl

theorem c_bytes (G : Res) (ba : Option Addr) (n cap : Nat) : Ctr Tryd.prog G 86 [.slice ba n cap] [] [] (retF fun v Φ' => ∃ b, v = .func (.func 110) #[] #[.pointer (some ⟨b, 0, none⟩)] ∧ Φ' = [Res.mem (some ⟨b, 0, none⟩) [.slice ba n cap]]) := by
  refine Ctr.intro Tryd.func86 (by kernel_rfl) rfl Tryd.ntmps86 rfl rfl rfl fun w X => ?_
  refine sw_seq ?_
  refine sw_region ?_
  refine r_box (k := fun bx => ?_)
  refine r_assign (k := ?_)
  refine sl_nil ?_
  refine sp_then ?_
  refine sw_seq ?_
  refine sw_region ?_
  refine r_clos (k := ?_)
  refine r_assign (k := ?_)
  refine sl_nil ?_
  refine sp_then ?_
  refine sw_ret ?_
  refine sp_freeze ?_
  refine sp_retv rfl rfl (.tmp rfl) rfl rfl ⟨rfl, _, rfl, rfl⟩ (by simp) rfl (by simp)

def step (x : UInt64) (b : UInt8) : UInt64 := reckon (x.toUInt8 ^^^ b) ^^^ (x >>> 8)
def sum (l : List UInt8) : UInt64 := ~~~ (l.foldl step (UInt64.ofNat 18446744073709551615))

theorem c_sum (G : Res) (ba : Option Addr) (cap : Nat) (ps : List BS) (hok : ∀ p ∈ ps, p.ok) (hn : ps.length ≤ maxLen) : Ctr Tryd.prog G 49 [.slice ba ps.length cap] [] [Res.mem ba (partsV ps), Res.all ps BS.res] (ret1 (v64 (sum (flat ps)))) := by
  refine Ctr.intro Tryd.func49 (by kernel_rfl) rfl Tryd.ntmps49 rfl rfl rfl fun w X => ?_
  refine sw_seq ?_
  refine sw_region ?_
  refine r_assign (k := ?_)
  refine sl_nil ?_
  refine sp_then ?_
  refine sw_seq ?_
  refine sw_region ?_
  refine r_alloc (by exact z25) (by exact rfl) (by exact rfl) fun b => ?_
  refine r_store_all (k := ?_)
  refine sl_nil ?_
  refine sp_then ?_
  refine sw_seq ?_
  refine sw_seq ?_
  refine sw_region ?_
  refine r_move (k := ?_)
  refine r_callF (c_bytes G _ _ _) (by exact rfl) (by exact rfl) (by exact rfl) (by simp) (by exact rfl) ?_
  rintro _ _ ⟨q, rfl, rfl⟩
  refine sl_nil ?_
  refine sp_then ?_
  refine sw_block ?_
  refine sw_rangeA (i_bytes G q ba cap ps hok hn) (fun s (_ : Unit) => [.box b [v64 s] 25]) (fun _ _ => []) step (fun _ _ => True) (UInt64.ofNat 18446744073709551615) () rfl rfl rfl (adm_true _ _) (by simp) (by simp) (fun _ _ => rfl) rfl (fun x vs V w h => by rw [show vs = [v8 x] from h]; rfl) ?_ ?_
  · intro l mk rec w X U K s _ x vs hrec _ ht
    refine w_pure ?_
    rintro rfl
    refine sw_region ?_
    refine r_assign (k := ?_)
    refine sl_nil ?_
    refine sp_asgR hrec rfl ?_
    refine sw_block ?_
    refine sw_region ?_
    refine r_load_one (k := ?_)
    refine r_move (k := ?_)
    refine r_call1 (c_step G _ _) (by exact rfl) (by exact rfl) (by exact rfl) (by simp) (by exact rfl) ?_
    refine r_store_all (k := ?_)
    refine sl_nil ?_
    refine sp_block ?_
    refine sp_round (i' := ()) ht hrec rfl (by repeat (first | exact List.Sublist.refl _ | apply List.Sublist.cons)) (by simp)
  · intro _ mk
    refine sp_block ?_
    refine sp_then ?_
    refine sw_seq ?_
    refine sw_region ?_
    refine r_load_one (k := ?_)
    refine r_not64 (k := ?_)
    refine r_assign (k := ?_)
    refine sl_nil ?_
    refine sp_then ?_
    refine sw_ret ?_
    refine sp_retv rfl rfl (.tmp rfl) rfl rfl ⟨rfl, rfl, rfl⟩ (by simp) rfl (by simp)
end Go.Proofs.YtjahiohlekdhoaaDoor
