/-
  The walks of package pack, and of what it uses of package slices.
-/
import Derived.Test.YtjahiohlekdhoaaDoorE14
import Derived.Test.YtjahiohlekdhoaaDoorTab
namespace Go.Proofs.YtjahiohlekdhoaaDoor
open Go
set_option maxHeartbeats 4000000
set_option maxRecDepth 4000
attribute [local irreducible] SW SL SP RA Then FQ IQ LoopQ RQ AQ NX CutQ Exit.noGoto

theorem c_wide (G : Res) (n : Nat) (h1 : 1 ≤ n) (h8 : n ≤ 8) : Ctr Tryd.prog G 89 [vi (n : Int)] [] [] (ret1 (vi (n : Int))) := by
  refine Ctr.intro Tryd.func89 (by kernel_rfl) rfl Tryd.ntmps89 rfl rfl rfl fun w X => ?_
  refine sw_seq ?_
  refine sw_region ?_
  refine r_assign (k := ?_)
  refine sl_nil ?_
  refine sp_then ?_
  refine sw_seq ?_
  refine sw_region ?_
  refine r_move (k := ?_)
  refine r_min (k := ?_)
  refine r_max (k := ?_)
  refine r_assign (k := ?_)
  refine sl_nil ?_
  refine sp_then ?_
  refine sw_ret ?_
  have e1 : (if (8 : Int) < n then 8 else (n : Int)) = n := if_neg (by omega)
  have e2 : (if (n : Int) < 1 then 1 else (n : Int)) = n := if_neg (by omega)
  refine sp_retv rfl rfl (.tmp rfl) rfl rfl ⟨?_, rfl, rfl⟩ (by simp) rfl (by simp)
  rw [e1, e2]

/-- A number's bytes, the lowest one first. -/
def le : Nat → UInt64 → List UInt8
  | 0, _ => []
  | w + 1, n => n.toUInt8 :: le w (n >>> UInt64.ofNat 8)
theorem le_length : ∀ (w : Nat) (n : UInt64), (le w n).length = w
  | 0, _ => rfl
  | w + 1, n => by rw [le, List.length_cons, le_length w]

theorem c_pbytes (G : Res) (n : UInt64) (w : Int) : Ctr Tryd.prog G 84 [v64 n, vi w] [] [] (fun v B' Φ' => ∃ b2 b3, v = .func (.func 108) #[] #[.pointer (some ⟨b3, 0, none⟩), .pointer (some ⟨b2, 0, none⟩)] ∧ B' = [.box b2 [v64 n] 25] ∧ Φ' = [Res.mem (some ⟨b3, 0, none⟩) [vi w]]) := by
  refine Ctr.intro Tryd.func84 (by kernel_rfl) rfl Tryd.ntmps84 rfl rfl rfl fun w X => ?_
  refine sw_seq ?_
  refine sw_region ?_
  refine r_box (k := fun bx => ?_)
  refine r_box (k := fun bx => ?_)
  refine r_assign (k := ?_)
  refine sl_nil ?_
  refine sp_then ?_
  refine sw_seq ?_
  refine sw_region ?_
  refine r_clos (k := ?_)
  refine r_assign (k := ?_)
  refine sl_nil ?_
  refine sp_then ?_
  refine sw_ret ?_
  refine sp_freeze ?_
  refine sp_retv rfl rfl (.tmp rfl) rfl rfl ⟨_, _, rfl, rfl, rfl⟩ (List.Sublist.refl _) rfl (by simp)

theorem i_pbytes (G : Res) (b2 b3 : Nat) (n : UInt64) (w : Nat) (h1 : 1 ≤ w) (h8 : w ≤ 8) : ICtr Tryd.prog G 108 [.pointer (some ⟨b3, 0, none⟩), .pointer (some ⟨b2, 0, none⟩)] [.box b2 [v64 n] 25] [Res.mem (some ⟨b3, 0, none⟩) [vi (w : Int)]] bElt (le w n) := by
  refine ICtr.intro Tryd.func108 (by kernel_rfl) rfl Tryd.ntmps108 rfl rfl (fun _ => rfl) fun σ J Y go A l s0 w' X M hgo hA hY => ?_
  refine sw_seq ?_
  refine sw_region ?_
  refine r_load_fr1 (k := ?_)
  refine r_call1 (c_wide G w h1 h8) (by exact rfl) (by exact rfl) (by exact rfl) (by simp) (by exact rfl) ?_
  refine r_move (k := ?_)
  refine sl_nil ?_
  refine sp_then ?_
  refine sw_block ?_
  refine sw_loop (ι := { p : Nat × UInt64 × σ // p.1 ≤ w ∧ At Y go A s0 (le w n) p.2.2 (le (w - p.1) p.2.1) })
    (fun p => [(0, yv l), (2, .pointer (some ⟨b2, 0, none⟩)), (5, vi (w : Int)), (6, vi (p.1.1 : Int))]) (fun p => [.box b2 [v64 p.1.2.1] 25]) (fun _ => []) (fun p => [J p.1.2.2]) (fun p => w - p.1.1) ⟨(0, n, s0), by simp, .start hgo hA⟩ ?_ fun i => ?_
  · exact Ent.mk' (by repeat' (first | trivial | exact rfl | apply And.intro)) (by repeat' (first | trivial | exact .head _ | exact .tail _ (.head _) | exact .tail _ (.tail _ (.head _)) | exact .tail _ (.tail _ (.tail _ (.head _))) | exact .tail _ (.tail _ (.tail _ (.tail _ (.head _)))) | exact .tail _ (.tail _ (.tail _ (.tail _ (.tail _ (.head _))))) | exact .tail _ (.tail _ (.tail _ (.tail _ (.tail _ (.tail _ (.head _)))))) | exact .tail _ (.tail _ (.tail _ (.tail _ (.tail _ (.tail _ (.tail _ (.head _))))))) | exact .tail _ (.tail _ (.tail _ (.tail _ (.tail _ (.tail _ (.tail _ (.tail _ (.head _)))))))) | exact .tail _ (.tail _ (.tail _ (.tail _ (.tail _ (.tail _ (.tail _ (.tail _ (.tail _ (.head _))))))))) | exact .tail _ (.tail _ (.tail _ (.tail _ (.tail _ (.tail _ (.tail _ (.tail _ (.tail _ (.tail _ (.head _)))))))))) | exact .tail _ (.tail _ (.tail _ (.tail _ (.tail _ (.tail _ (.tail _ (.tail _ (.tail _ (.tail _ (.tail _ (.head _))))))))))) | apply And.intro))
  obtain ⟨⟨i, m, s⟩, hi, hr⟩ := i
  dsimp only at hi hr ⊢
  refine sw_seq ?_
  refine sw_region ?_
  refine r_lss (k := ?_)
  refine sl_nil ?_
  refine sp_then ?_
  refine sw_seq ?_
  refine sw_cond rfl (fun h => ?_) (fun h => ?_)
  · have h := of_decide_eq_true h
    have e : w - i = (w - (i + 1)) + 1 := by omega
    rw [e, le] at hr
    refine sw_skip ?_
    refine sp_then ?_
    refine sw_seq ?_
    refine sw_block ?_
    refine sw_seq ?_
    refine sw_seq ?_
    refine sw_region ?_
    refine r_move (k := ?_)
    refine r_load_one (k := ?_)
    refine r_cv_64_8 (k := ?_)
    refine r_yield hY hr.go' hr.give rfl rfl (el := m.toUInt8) (fun _ _ _ => rfl) rfl ?_
    refine r_not (k := ?_)
    refine sl_nil ?_
    refine sp_then ?_
    cases hg : go (Y s m.toUInt8)
    · refine swd_t (h := ?_)
      refine sw_ret ?_
      refine sp_then_ret ?_
      refine sp_block_ret ?_
      refine sp_then_ret ?_
      refine sp_loop_ret ?_
      refine sp_block_ret ?_
      refine sp_iret rfl rfl rfl ⟨hr.stop hg, rfl, rfl⟩ (by simp) rfl (by simp) rfl
    · refine swd_f (h := ?_)
      refine sw_skip ?_
      refine sp_then ?_
      refine sw_region ?_
      refine r_load_one (k := ?_)
      refine r_shr64 (k := ?_)
      refine r_store_all (k := ?_)
      refine sl_nil ?_
      refine sp_block ?_
      refine sp_then ?_
      refine sw_region ?_
      refine r_add64 (k := ?_)
      refine r_move (k := ?_)
      refine sl_nil ?_
      refine sp_loop (ι := { p : Nat × UInt64 × σ // p.1 ≤ w ∧ At Y go A s0 (le w n) p.2.2 (le (w - p.1) p.2.1) }) ⟨(i + 1, m >>> UInt64.ofNat 8, Y s m.toUInt8), by dsimp only; omega, hr.next hg⟩ ?_ ?_
      · dsimp only; omega
      · exact Ent.mk' (by repeat' (first | trivial | exact rfl | apply And.intro)) (by repeat' (first | trivial | exact .head _ | exact .tail _ (.head _) | exact .tail _ (.tail _ (.head _)) | exact .tail _ (.tail _ (.tail _ (.head _))) | exact .tail _ (.tail _ (.tail _ (.tail _ (.head _)))) | exact .tail _ (.tail _ (.tail _ (.tail _ (.tail _ (.head _))))) | exact .tail _ (.tail _ (.tail _ (.tail _ (.tail _ (.tail _ (.head _)))))) | exact .tail _ (.tail _ (.tail _ (.tail _ (.tail _ (.tail _ (.tail _ (.head _))))))) | exact .tail _ (.tail _ (.tail _ (.tail _ (.tail _ (.tail _ (.tail _ (.tail _ (.head _)))))))) | exact .tail _ (.tail _ (.tail _ (.tail _ (.tail _ (.tail _ (.tail _ (.tail _ (.tail _ (.head _))))))))) | exact .tail _ (.tail _ (.tail _ (.tail _ (.tail _ (.tail _ (.tail _ (.tail _ (.tail _ (.tail _ (.head _)))))))))) | exact .tail _ (.tail _ (.tail _ (.tail _ (.tail _ (.tail _ (.tail _ (.tail _ (.tail _ (.tail _ (.tail _ (.head _))))))))))) | apply And.intro))
  · have h := of_decide_eq_false h
    obtain rfl : i = w := by omega
    rw [Nat.sub_self] at hr
    refine sw_exit ?_
    refine sp_then_exit ?_
    refine sp_loop_exit ?_
    refine sp_block_exit ?_
    refine sp_inorm rfl rfl rfl ⟨hr.done, rfl, rfl⟩ (by simp) rfl (by simp) rfl

/-! ### slices -/
theorem c_clone (G : Res) (s : BS) (hl : s.xs.length ≤ 140737488355328) : Ctr Tryd.prog G 83 [s.v] [] [s.res] (retR 5 s.xs) := by
  refine Ctr.intro Tryd.func83 (by kernel_rfl) rfl Tryd.ntmps83 rfl rfl rfl fun w X => ?_
  obtain ⟨ba, cap, xs⟩ := s
  refine sw_seq ?_
  refine sw_region ?_
  refine r_assign (k := ?_)
  refine sl_nil ?_
  refine sp_then ?_
  refine sw_seq ?_
  refine sw_seq ?_
  refine sw_region ?_
  refine r_move (k := ?_)
  refine r_nil_eq (k := ?_)
  refine sl_nil ?_
  refine sp_then ?_
  cases ba with
  | none =>
    refine swd_t (h := ?_)
    refine sw_seq ?_
    refine sw_region ?_
    refine r_assign (k := ?_)
    refine sl_nil ?_
    refine sp_then ?_
    refine sw_ret ?_
    refine sp_then_ret ?_
    refine sp_nowhere (cs := bv xs) (by first | exact .head _ | exact .tail _ (.head _) | exact .tail _ (.tail _ (.head _)) | exact .tail _ (.tail _ (.tail _ (.head _))) | exact .tail _ (.tail _ (.tail _ (.tail _ (.head _)))) | exact .tail _ (.tail _ (.tail _ (.tail _ (.tail _ (.head _))))) | exact .tail _ (.tail _ (.tail _ (.tail _ (.tail _ (.tail _ (.head _)))))) | exact .tail _ (.tail _ (.tail _ (.tail _ (.tail _ (.tail _ (.tail _ (.head _))))))) | exact .tail _ (.tail _ (.tail _ (.tail _ (.tail _ (.tail _ (.tail _ (.tail _ (.head _)))))))) | exact .tail _ (.tail _ (.tail _ (.tail _ (.tail _ (.tail _ (.tail _ (.tail _ (.tail _ (.head _))))))))) | exact .tail _ (.tail _ (.tail _ (.tail _ (.tail _ (.tail _ (.tail _ (.tail _ (.tail _ (.tail _ (.head _)))))))))) | exact .tail _ (.tail _ (.tail _ (.tail _ (.tail _ (.tail _ (.tail _ (.tail _ (.tail _ (.tail _ (.tail _ (.head _)))))))))))) fun h => ?_
    obtain rfl := bv_nil h
    refine sp_nil 5 1 ?_
    refine sp_retv rfl rfl (.tmp rfl) rfl rfl ⟨rfl, rfl, rfl, rfl⟩ (List.Sublist.refl _) rfl (by simp)
  | some a =>
    refine swd_f (h := ?_)
    refine sw_skip ?_
    refine sp_then ?_
    refine sw_seq ?_
    refine sw_region ?_
    refine r_litB (xs := []) (bs := []) (by exact tl rfl) (by exact z5) (by exact rfl) (by exact rfl) (by exact rfl) (by exact rfl) (by exact rfl) fun v h1 h2 => ?_
    refine r_move (k := ?_)
    refine r_appendB (xs := []) (s := ⟨some a, cap, xs⟩) (by exact tl rfl) (by exact z5) (by exact rfl) (by exact rfl) (by first | exact .head _ | exact .tail _ (.head _) | exact .tail _ (.tail _ (.head _)) | exact .tail _ (.tail _ (.tail _ (.head _))) | exact .tail _ (.tail _ (.tail _ (.tail _ (.head _)))) | exact .tail _ (.tail _ (.tail _ (.tail _ (.tail _ (.head _))))) | exact .tail _ (.tail _ (.tail _ (.tail _ (.tail _ (.tail _ (.head _)))))) | exact .tail _ (.tail _ (.tail _ (.tail _ (.tail _ (.tail _ (.tail _ (.head _))))))) | exact .tail _ (.tail _ (.tail _ (.tail _ (.tail _ (.tail _ (.tail _ (.tail _ (.head _)))))))) | exact .tail _ (.tail _ (.tail _ (.tail _ (.tail _ (.tail _ (.tail _ (.tail _ (.tail _ (.head _))))))))) | exact .tail _ (.tail _ (.tail _ (.tail _ (.tail _ (.tail _ (.tail _ (.tail _ (.tail _ (.tail _ (.head _)))))))))) | exact .tail _ (.tail _ (.tail _ (.tail _ (.tail _ (.tail _ (.tail _ (.tail _ (.tail _ (.tail _ (.tail _ (.head _)))))))))))) (by simpa using hl) (by exact rfl) fun v' h1 h2 => ?_
    refine r_assign (k := ?_)
    refine sl_nil ?_
    refine sp_then ?_
    refine sw_ret ?_
    refine sp_retv rfl rfl (.tmp rfl) rfl rfl ⟨h1, h2, rfl, rfl⟩ (List.Sublist.refl _) rfl (by simp)

theorem adm_app {go : List UInt8 → Bool} : ∀ (L : List UInt8) (s : List UInt8) (n : Nat), s.length + L.length ≤ n → Adm (fun (s : List UInt8) b => s ++ [b]) go (fun s _ => s.length + 1 ≤ n) s L
  | [], _, _, _ => trivial
  | x :: l, s, n, h => ⟨by simp at h; omega, fun _ => adm_app l _ n (by simp at h ⊢; omega)⟩
theorem foldl_app : ∀ (L s : List UInt8), L.foldl (fun (s : List UInt8) b => s ++ [b]) s = s ++ L
  | [], s => by simp
  | x :: l, s => by rw [List.foldl_cons, foldl_app l]; simp

theorem c_appendSeq (G : Res) (v : Value) (hv : v.cells = #[v]) (hv1 : v.oneCell' = true) (xs L : List UInt8) (hl : xs.length + L.length ≤ 140737488355328) {gf : FuncId} {caps : List Value} {Bp : List Own} {Φp : List Res} (hc : ICtr Tryd.prog G gf caps Bp Φp bElt L) :
    Ctr Tryd.prog G 82 [v, .func (.func gf) #[] caps.toArray] (.row v xs.length (bv xs) 5 1 :: Bp) Φp (retB (xs ++ L)) := by
  refine Ctr.intro Tryd.func82 (by kernel_rfl) rfl Tryd.ntmps82 (by rw [marks_cons, hc.nomark]; rfl) rfl rfl fun w X => ?_
  refine sw_seq ?_
  refine sw_region ?_
  refine r_box (k := fun bx => ?_)
  refine r_assign (k := ?_)
  refine sl_nil ?_
  refine sp_then ?_
  refine sw_seq ?_
  refine sw_seq ?_
  refine sw_region ?_
  refine r_move (k := ?_)
  refine sl_nil ?_
  refine sp_then ?_
  refine sw_block ?_
  refine w_perm (B' := Bp ++ [.row v xs.length (bv xs) 5 1, .box bx [v] 28]) ?_ ?_ ?_
  · exact (List.perm_append_comm).trans (.swap _ _ _)
  · refine sw_rangeA (ι := { v : Value // v.cells = #[v] ∧ v.oneCell' = true }) hc (fun s i => [.row i.1 s.length (bv s) 5 1, .box bx [i.1] 28]) (fun _ _ => []) (fun s b => s ++ [b]) (fun s _ => s.length + 1 ≤ xs.length + L.length) xs ⟨v, hv, hv1⟩ rfl rfl rfl (adm_app L xs _ (by omega)) (by simp) (by simp) (fun _ _ => rfl) rfl (fun x vs V w h => by rw [show vs = [v8 x] from h]; rfl) ?_ ?_
    · rintro l mk rec w X U K s ⟨i, hi1, hi2⟩ x vs hrec hlen ht
      refine w_pure ?_
      rintro rfl
      refine sw_region ?_
      refine r_assign (k := ?_)
      refine sl_nil ?_
      refine sp_asgR hrec rfl ?_
      dsimp only [pull, push, two, List.drop, List.take, List.cons_append, List.nil_append]
      refine sw_block ?_
      refine sw_region ?_
      refine r_load_one (k := ?_)
      refine r_move (k := ?_)
      refine r_litB (xs := [.tmp 9]) (bs := [x]) (by exact tl rfl) (by exact z5) (by exact rfl) (by exact rfl) (by exact rfl) (by exact rfl) (by exact rfl) fun v h1 h2 => ?_
      refine o_rowB fun sx hsx hx e => ?_
      subst e
      refine o_pull 2 rfl ?_
      dsimp only [pull, push, two, List.drop, List.take, List.cons_append, List.nil_append]
      refine r_appendB (xs := s) (s := sx) (by exact tl rfl) (by exact z5) (by exact rfl) (by exact rfl) (by first | exact .head _ | exact .tail _ (.head _) | exact .tail _ (.tail _ (.head _)) | exact .tail _ (.tail _ (.tail _ (.head _))) | exact .tail _ (.tail _ (.tail _ (.tail _ (.head _)))) | exact .tail _ (.tail _ (.tail _ (.tail _ (.tail _ (.head _))))) | exact .tail _ (.tail _ (.tail _ (.tail _ (.tail _ (.tail _ (.head _)))))) | exact .tail _ (.tail _ (.tail _ (.tail _ (.tail _ (.tail _ (.tail _ (.head _))))))) | exact .tail _ (.tail _ (.tail _ (.tail _ (.tail _ (.tail _ (.tail _ (.tail _ (.head _)))))))) | exact .tail _ (.tail _ (.tail _ (.tail _ (.tail _ (.tail _ (.tail _ (.tail _ (.tail _ (.head _))))))))) | exact .tail _ (.tail _ (.tail _ (.tail _ (.tail _ (.tail _ (.tail _ (.tail _ (.tail _ (.tail _ (.head _)))))))))) | exact .tail _ (.tail _ (.tail _ (.tail _ (.tail _ (.tail _ (.tail _ (.tail _ (.tail _ (.tail _ (.tail _ (.head _)))))))))))) ?_ (by exact rfl) fun v' h1 h2 => ?_
      · rw [hx]; simp; omega
      rw [hx]
      refine o_push 2 rfl ?_
      dsimp only [pull, push, two, List.drop, List.take, List.cons_append, List.nil_append]
      refine r_store1 (k := ?_)
      refine sl_nil ?_
      refine sp_block ?_
      refine sp_round (ι := { v : Value // v.cells = #[v] ∧ v.oneCell' = true }) (i' := ⟨v', h1, h2⟩) ht hrec ?_ ?_ ?_
      · rfl
      · exact List.Sublist.refl _
      · simp
    · rintro ⟨i, hi1, hi2⟩ mk
      rw [foldl_app]
      refine sp_block ?_
      refine sp_then ?_
      refine sw_seq ?_
      refine sw_region ?_
      refine r_load_one (k := ?_)
      refine r_assign (k := ?_)
      refine sl_nil ?_
      refine sp_then ?_
      refine sw_ret ?_
      refine sp_pull 1 rfl ?_
      dsimp only [pull, push, two, List.drop, List.take, List.cons_append, List.nil_append]
      refine sp_rowB fun r hr hx e => ?_
      subst e
      refine sp_retv rfl rfl (.tmp rfl) rfl rfl ⟨rfl, r, rfl, hr, hx, rfl⟩ (by simp) rfl (by simp)
  · rw [marks_append, hc.nomark]
    show [] ++ [] = marks Bp
    rw [hc.nomark]; rfl

/-- pack.Put -/
theorem c_put (G : Res) (s : BS) (n : UInt64) (w : Nat) (h1 : 1 ≤ w) (h8 : w ≤ 8) (hl : s.xs.length + w ≤ 140737488355328) : Ctr Tryd.prog G 47 [s.v, v64 n, vi (w : Int)] [] [s.res] (retB (s.xs ++ le w n)) := by
  refine Ctr.intro Tryd.func47 (by kernel_rfl) rfl Tryd.ntmps47 rfl rfl rfl fun w' X => ?_
  refine sw_seq ?_
  refine sw_region ?_
  refine r_assign (k := ?_)
  refine sl_nil ?_
  refine sp_then ?_
  refine sw_seq ?_
  refine sw_region ?_
  refine r_move (k := ?_)
  refine r_callR (Bp := []) (Br := []) (c_clone G s (by omega)) (by exact rfl) (by exact rfl) (by exact rfl) (by simp) (by exact rfl) fun v hv1 hv2 => ?_
  refine r_move (k := ?_)
  refine r_move (k := ?_)
  refine r_call (Bp := []) (Br := [.row v s.xs.length (bv s.xs) 5 1]) (c_pbytes G n w) (by exact rfl) (by exact rfl) (by exact rfl) (by simp) (by exact rfl) ?_
  rintro _ _ _ ⟨b2, b3, rfl, rfl, rfl⟩
  dsimp only [List.cons_append, List.nil_append]
  refine o_push 1 rfl ?_
  dsimp only [pull, push, two, List.drop, List.take, List.cons_append, List.nil_append]
  refine r_call (Bp := [.row v s.xs.length (bv s.xs) 5 1, .box b2 [v64 n] 25]) (Br := []) (c_appendSeq G v hv1 hv2 s.xs (le w n) (by rw [le_length]; exact hl) (i_pbytes G b2 b3 n w h1 h8)) (by exact rfl) (by exact rfl) (by exact rfl) (by simp) (by exact rfl) ?_
  rintro _ _ _ ⟨rfl, r, rfl, hr, hx, rfl⟩
  refine r_assign (k := ?_)
  refine sl_nil ?_
  refine sp_then ?_
  refine sw_ret ?_
  refine sp_retv rfl rfl (.tmp rfl) rfl rfl ⟨rfl, r, rfl, hr, hx, rfl⟩ (by simp) rfl (by simp)

/-! ### Take -/
def bElt2 (b : UInt8) (vs : List Value) : Res := Res.pure (∃ i : Int, vs = [vi i, v8 b])

theorem c_backward (G : Res) (s : BS) : Ctr Tryd.prog G 90 [s.v] [] [] (retF fun v Φ' => ∃ b, v = .func (.func 113) #[] #[.pointer (some ⟨b, 0, none⟩)] ∧ Φ' = [Res.mem (some ⟨b, 0, none⟩) [s.v]]) := by
  obtain ⟨ba, cap, xs⟩ := s
  refine Ctr.intro Tryd.func90 (by kernel_rfl) rfl Tryd.ntmps90 rfl rfl rfl fun w X => ?_
  refine sw_seq ?_
  refine sw_region ?_
  refine r_box (k := fun bx => ?_)
  refine r_assign (k := ?_)
  refine sl_nil ?_
  refine sp_then ?_
  refine sw_seq ?_
  refine sw_region ?_
  refine r_clos (k := ?_)
  refine r_assign (k := ?_)
  refine sl_nil ?_
  refine sp_then ?_
  refine sw_ret ?_
  refine sp_freeze ?_
  refine sp_retv rfl rfl (.tmp rfl) rfl rfl ⟨rfl, _, rfl, rfl⟩ (by simp) rfl (by simp)

theorem take_succ_rev (xs : List UInt8) (k : Nat) (h : k < xs.length) : (xs.take (k + 1)).reverse = xs[k] :: (xs.take k).reverse := by
  rw [List.take_succ_eq_append_getElem h]; simp

theorem i_backward (G : Res) (b : Nat) (s : BS) (hok : s.ok) : ICtr Tryd.prog G 113 [.pointer (some ⟨b, 0, none⟩)] [] [Res.mem (some ⟨b, 0, none⟩) [s.v], s.res] bElt2 s.xs.reverse := by
  have hn' : s.xs.length ≤ 9223372036854775807 := Nat.le_trans hok.1 hok.2
  refine ICtr.intro Tryd.func113 (by kernel_rfl) rfl Tryd.ntmps113 rfl rfl (fun _ => rfl) fun σ J Y go A l s0 w' X M hgo hA hY => ?_
  refine sw_seq ?_
  refine sw_region ?_
  refine r_load_fr1 (k := ?_)
  refine r_len (k := ?_)
  refine r_sub64 (k := ?_)
  refine r_assign (k := ?_)
  refine sl_nil ?_
  refine sp_then ?_
  refine sw_block ?_
  refine sw_loop (ι := { p : Nat × σ // p.1 ≤ s.xs.length ∧ At Y go A s0 s.xs.reverse p.2 (s.xs.take p.1).reverse })
    (fun p => [(0, yv l), (1, .pointer (some ⟨b, 0, none⟩)), (3, vi ((p.1.1 : Int) - 1))]) (fun _ => []) (fun _ => [Res.mem (some ⟨b, 0, none⟩) [s.v], s.res]) (fun p => [J p.1.2]) (fun p => p.1.1) ⟨(s.xs.length, s0), Nat.le_refl _, (At.start hgo hA).of (by simp)⟩ ?_ fun i => ?_
  · exact Ent.mk' (by repeat' (first | trivial | exact rfl | apply And.intro)) (by repeat' (first | trivial | exact .head _ | exact .tail _ (.head _) | exact .tail _ (.tail _ (.head _)) | exact .tail _ (.tail _ (.tail _ (.head _))) | exact .tail _ (.tail _ (.tail _ (.tail _ (.head _)))) | exact .tail _ (.tail _ (.tail _ (.tail _ (.tail _ (.head _))))) | exact .tail _ (.tail _ (.tail _ (.tail _ (.tail _ (.tail _ (.head _)))))) | exact .tail _ (.tail _ (.tail _ (.tail _ (.tail _ (.tail _ (.tail _ (.head _))))))) | exact .tail _ (.tail _ (.tail _ (.tail _ (.tail _ (.tail _ (.tail _ (.tail _ (.head _)))))))) | exact .tail _ (.tail _ (.tail _ (.tail _ (.tail _ (.tail _ (.tail _ (.tail _ (.tail _ (.head _))))))))) | exact .tail _ (.tail _ (.tail _ (.tail _ (.tail _ (.tail _ (.tail _ (.tail _ (.tail _ (.tail _ (.head _)))))))))) | exact .tail _ (.tail _ (.tail _ (.tail _ (.tail _ (.tail _ (.tail _ (.tail _ (.tail _ (.tail _ (.tail _ (.head _))))))))))) | apply And.intro))
  obtain ⟨⟨i, st⟩, hi, hr⟩ := i
  dsimp only at hi hr ⊢
  refine sw_seq ?_
  refine sw_seq ?_
  refine sw_region ?_
  refine r_move (k := ?_)
  refine r_geq (k := ?_)
  refine sl_nil ?_
  refine sp_then ?_
  refine sw_cond rfl (fun h => ?_) (fun h => ?_)
  · have h := of_decide_eq_true h
    obtain ⟨k, rfl⟩ : ∃ k, i = k + 1 := ⟨i - 1, by omega⟩
    have hk : k < s.xs.length := by omega
    have ek : ((k + 1 : Nat) : Int) - 1 = (k : Int) := by omega
    have hr := hr.of (take_succ_rev s.xs k hk)
    simp only [ek]
    refine sw_skip ?_
    refine sp_then ?_
    refine sw_seq ?_
    refine sw_block ?_
    refine sw_seq ?_
    refine sw_region ?_
    refine r_move (k := ?_)
    refine r_move (k := ?_)
    refine r_load_fr1 (k := ?_)
    refine r_move (k := ?_)
    refine r_idx (k := ?_)
    refine r_load_mem1 (v := v8 s.xs[k]) (tz rfl) rfl (by first | exact .head _ | exact .tail _ (.head _) | exact .tail _ (.tail _ (.head _)) | exact .tail _ (.tail _ (.tail _ (.head _))) | exact .tail _ (.tail _ (.tail _ (.tail _ (.head _)))) | exact .tail _ (.tail _ (.tail _ (.tail _ (.tail _ (.head _))))) | exact .tail _ (.tail _ (.tail _ (.tail _ (.tail _ (.tail _ (.head _)))))) | exact .tail _ (.tail _ (.tail _ (.tail _ (.tail _ (.tail _ (.tail _ (.head _))))))) | exact .tail _ (.tail _ (.tail _ (.tail _ (.tail _ (.tail _ (.tail _ (.tail _ (.head _)))))))) | exact .tail _ (.tail _ (.tail _ (.tail _ (.tail _ (.tail _ (.tail _ (.tail _ (.tail _ (.head _))))))))) | exact .tail _ (.tail _ (.tail _ (.tail _ (.tail _ (.tail _ (.tail _ (.tail _ (.tail _ (.tail _ (.head _)))))))))) | exact .tail _ (.tail _ (.tail _ (.tail _ (.tail _ (.tail _ (.tail _ (.tail _ (.tail _ (.tail _ (.tail _ (.head _)))))))))))) (by rw [Nat.mul_one]; exact bv_get _ _ hk) rfl ?_
    refine r_yield hY hr.go' hr.give rfl rfl (el := s.xs[k]) (fun _ _ _ => ⟨_, rfl⟩) rfl ?_
    refine r_not (k := ?_)
    refine sl_nil ?_
    refine sp_then ?_
    cases hg : go (Y st s.xs[k])
    · refine swd_t (h := ?_)
      refine sw_ret ?_
      refine sp_block_ret ?_
      refine sp_then_ret ?_
      refine sp_loop_ret ?_
      refine sp_block_ret ?_
      refine sp_iret rfl rfl rfl ⟨hr.stop hg, rfl, rfl⟩ (by simp) rfl (by simp) rfl
    · refine swd_f (h := ?_)
      refine sw_skip ?_
      refine sp_block ?_
      refine sp_then ?_
      refine sw_region ?_
      refine r_move (k := ?_)
      refine r_sub64 (k := ?_)
      refine r_assign (k := ?_)
      refine sl_nil ?_
      refine sp_loop (ι := { p : Nat × σ // p.1 ≤ s.xs.length ∧ At Y go A s0 s.xs.reverse p.2 (s.xs.take p.1).reverse }) ⟨(k, Y st s.xs[k]), by dsimp only; omega, hr.next hg⟩ ?_ ?_
      · dsimp only; omega
      · exact Ent.mk' (by repeat' (first | trivial | exact rfl | apply And.intro)) (by repeat' (first | trivial | exact .head _ | exact .tail _ (.head _) | exact .tail _ (.tail _ (.head _)) | exact .tail _ (.tail _ (.tail _ (.head _))) | exact .tail _ (.tail _ (.tail _ (.tail _ (.head _)))) | exact .tail _ (.tail _ (.tail _ (.tail _ (.tail _ (.head _))))) | exact .tail _ (.tail _ (.tail _ (.tail _ (.tail _ (.tail _ (.head _)))))) | exact .tail _ (.tail _ (.tail _ (.tail _ (.tail _ (.tail _ (.tail _ (.head _))))))) | exact .tail _ (.tail _ (.tail _ (.tail _ (.tail _ (.tail _ (.tail _ (.tail _ (.head _)))))))) | exact .tail _ (.tail _ (.tail _ (.tail _ (.tail _ (.tail _ (.tail _ (.tail _ (.tail _ (.head _))))))))) | exact .tail _ (.tail _ (.tail _ (.tail _ (.tail _ (.tail _ (.tail _ (.tail _ (.tail _ (.tail _ (.head _)))))))))) | exact .tail _ (.tail _ (.tail _ (.tail _ (.tail _ (.tail _ (.tail _ (.tail _ (.tail _ (.tail _ (.tail _ (.head _))))))))))) | apply And.intro))
  · have h := of_decide_eq_false h
    obtain rfl : i = 0 := by omega
    refine sw_exit ?_
    refine sp_then_exit ?_
    refine sp_loop_exit ?_
    refine sp_block_exit ?_
    refine sp_inorm rfl rfl rfl ⟨hr.done, rfl, rfl⟩ (by simp) rfl (by simp) rfl

/-- What bytes tell, the lowest one first. -/
def unle (l : List UInt8) : UInt64 := l.reverse.foldl (fun n b => (n <<< UInt64.ofNat 8) ||| b.toUInt64) (UInt64.ofNat 0)

theorem c_take (G : Res) (s : BS) (hok : s.ok) (n : Nat) (h1 : 1 ≤ n) (h8 : n ≤ 8) (hl : n ≤ s.xs.length) : Ctr Tryd.prog G 53 [s.v, vi (n : Int)] [] [s.res] (retF fun v Φ' => ∃ r : BS, v = .tuple #[v64 (unle (s.xs.take n)), r.v, vi 0] ∧ r.ok ∧ r.xs = s.xs.drop n ∧ Φ' = [r.res]) := by
  have hn' : s.xs.length ≤ 9223372036854775807 := Nat.le_trans hok.1 hok.2
  refine Ctr.intro Tryd.func53 (by kernel_rfl) rfl Tryd.ntmps53 rfl rfl rfl fun w X => ?_
  refine sw_seq ?_
  refine sw_region ?_
  refine r_alloc (by exact z25) (by exact rfl) (by exact rfl) fun b => ?_
  refine r_assign (k := ?_)
  refine r_assign (k := ?_)
  refine sl_nil ?_
  refine sp_then ?_
  refine sw_seq ?_
  refine sw_region ?_
  refine r_move (k := ?_)
  refine r_call1 (c_wide G n h1 h8) (by exact rfl) (by exact rfl) (by exact rfl) (by simp) (by exact rfl) ?_
  refine r_assign (k := ?_)
  refine sl_nil ?_
  refine sp_then ?_
  refine sw_seq ?_
  refine sw_seq ?_
  refine sw_region ?_
  refine r_move (k := ?_)
  refine r_len (k := ?_)
  refine r_move (k := ?_)
  refine r_lss (k := ?_)
  refine sl_nil ?_
  refine sp_then ?_
  refine sw_cond rfl (fun h => ?_) (fun h => ?_)
  · have h := of_decide_eq_true h
    exact absurd h (by omega)
  refine sw_skip ?_
  refine sp_then ?_
  refine sw_seq ?_
  refine sw_seq ?_
  refine sw_region ?_
  refine r_move (k := ?_)
  refine r_move (k := ?_)
  refine r_cutB (s := s) (l := 0) (h := n) (by exact tl rfl) (by exact rfl) (by first | exact .head _ | exact .tail _ (.head _) | exact .tail _ (.tail _ (.head _)) | exact .tail _ (.tail _ (.tail _ (.head _))) | exact .tail _ (.tail _ (.tail _ (.tail _ (.head _)))) | exact .tail _ (.tail _ (.tail _ (.tail _ (.tail _ (.head _))))) | exact .tail _ (.tail _ (.tail _ (.tail _ (.tail _ (.tail _ (.head _)))))) | exact .tail _ (.tail _ (.tail _ (.tail _ (.tail _ (.tail _ (.tail _ (.head _))))))) | exact .tail _ (.tail _ (.tail _ (.tail _ (.tail _ (.tail _ (.tail _ (.tail _ (.head _)))))))) | exact .tail _ (.tail _ (.tail _ (.tail _ (.tail _ (.tail _ (.tail _ (.tail _ (.tail _ (.head _))))))))) | exact .tail _ (.tail _ (.tail _ (.tail _ (.tail _ (.tail _ (.tail _ (.tail _ (.tail _ (.tail _ (.head _)))))))))) | exact .tail _ (.tail _ (.tail _ (.tail _ (.tail _ (.tail _ (.tail _ (.tail _ (.tail _ (.tail _ (.tail _ (.head _)))))))))))) hok rfl ⟨_, rfl⟩ (by omega) hl (by exact rfl) fun s' hs' hx' => ?_
  refine r_callF (c_backward G s') (by exact rfl) (by exact rfl) (by exact rfl) (by simp) (by exact rfl) ?_
  rintro _ _ ⟨q, rfl, rfl⟩
  refine sl_nil ?_
  refine sp_then ?_
  refine sw_block ?_
  refine sw_rangeA (i_backward G q s' hs') (fun n (_ : Unit) => [.box b [v64 n] 25]) (fun _ _ => [s.res]) (fun n b => (n <<< UInt64.ofNat 8) ||| b.toUInt64) (fun _ _ => True) (UInt64.ofNat 0) () rfl rfl rfl (adm_true _ _) (by simp) (by simp) (fun _ _ => rfl) rfl (fun x vs V w h => by obtain ⟨i, rfl⟩ := h; rfl) ?_ ?_
  · intro l mk rec w X U K st _ x vs hrec _ ht
    refine w_pure ?_
    rintro ⟨i, rfl⟩
    refine sw_region ?_
    refine r_assign (k := ?_)
    refine sl_nil ?_
    refine sp_asgR hrec rfl ?_
    dsimp only [pull, push, two, List.drop, List.take, List.cons_append, List.nil_append]
    refine sw_block ?_
    refine sw_region ?_
    refine r_load_one (k := ?_)
    refine r_shl64 (k := ?_)
    refine r_move (k := ?_)
    refine r_cv_8_64 (k := ?_)
    refine r_or64 (k := ?_)
    refine r_store_all (k := ?_)
    refine sl_nil ?_
    refine sp_block ?_
    refine sp_round (ι := Unit) (i' := ()) ht hrec ?_ ?_ ?_
    · rfl
    · exact List.Sublist.refl _
    · simp
  · intro _ mk
    have e : s'.xs.reverse.foldl (fun n b => (n <<< UInt64.ofNat 8) ||| b.toUInt64) (UInt64.ofNat 0) = unle (s.xs.take n) := by rw [hx']; simp [unle]
    rw [e]
    refine sp_block ?_
    refine sp_then ?_
    refine sw_seq ?_
    refine sw_draw [(none, .box b [v64 (unle (s.xs.take n))] 25)] [s.res] [0, 1, 2, 3, 4, 5, 6] mix (by kernel_rfl) rfl ?_
    refine ra_first 0 [(none, .box b [v64 (unle (s.xs.take n))] 25)] [1, 2, 3, 4, 5, 6] (hq := by first | exact q_load_one | exact q_load_all | exact q_load_fr1 | exact q_load_fr) (k := ?_)
    refine ra_first 1 [] [2, 3, 4, 5, 6] (hq := by exact q_move) (k := ?_)
    refine ra_first 2 [] [3, 4, 5, 6] (hq := by exact q_move) (k := ?_)
    refine ra_first 3 [] [4, 5, 6] (hq := by exact q_cutB (s := s) (l := n) (h := s.xs.length) (by exact tl rfl) (by exact rfl) hok ⟨_, rfl⟩ rfl hl (Nat.le_refl _)) (k := ?_)
    refine ra1 (i := 4) [5, 6] (h := ?_)
    refine r_store_all (k := ?_)
    refine sl_nil ?_
    refine sp_nx (k := ?_)
    refine ra_first 5 [] [6] (hq := by exact q_assign) (k := ?_)
    refine ra_first 6 [] [] (hq := by exact q_assign) (k := ?_)
    refine ra_done ?_
    refine sp_then ?_
    refine sw_ret ?_
    refine sp_of_sl (fun h => f_have (φ := (cutB s n s.xs.length).res) (fun V w hw => cutB_res (hw _ (.head _)) hok hl (Nat.le_refl _)) h) ?_
    refine sp_ret3 rfl rfl (.one rfl (tz rfl) (.tail _ (.head _))) (.tmp rfl) (.tmp rfl) rfl rfl ⟨rfl, cutB s n s.xs.length, rfl, cutB_ok hok (Nat.le_refl _), ?_, rfl⟩ (by simp) rfl (by simp)
    exact List.take_of_length_le (by simp)
end Go.Proofs.YtjahiohlekdhoaaDoor
