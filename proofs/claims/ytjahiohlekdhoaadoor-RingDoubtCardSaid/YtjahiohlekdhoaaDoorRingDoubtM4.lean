/-
  The walks of package ptr.
  The walks of package crc.
  The walks of package pack, the rest: bytes put and taken.
-/
import Derived.Test.YtjahiohlekdhoaaDoorRingDoubtM3
import Derived.DeepKeys
namespace Go.Proofs.YtjahiohlekdhoaaDoor
open Go
set_option maxHeartbeats 4000000
set_option maxRecDepth 4000
attribute [local irreducible] SW SL SP RA Then FQ IQ LoopQ RQ AQ NX CutQ Exit.noGoto

/-- A pointer. -/
structure PtrV where
  kind : UInt8
  a0 : UInt16
  a1 : UInt16
  birth : UInt32
  sum : UInt64
  deriving DecidableEq
def PtrV.cs (x : PtrV) : List Value := [v8 x.kind, v16 x.a0, v16 x.a1, v32 x.birth, v64 x.sum]
def PtrV.v (x : PtrV) : Value := .agg x.cs.toArray
def PtrV.none : PtrV := ⟨0, 0, 0, 0, 0⟩

theorem wf8 (x : UInt8) : (Lit.int .u8 (x.toNat : Int)).wf = true := by have := lt8 x; simp [Lit.wf, IntKind.min, IntKind.max, IntKind.signed, IntKind.bits]; omega
theorem wf16 (x : UInt16) : (Lit.int .u16 (x.toNat : Int)).wf = true := by have := lt16 x; simp [Lit.wf, IntKind.min, IntKind.max, IntKind.signed, IntKind.bits]; omega
theorem wf32 (x : UInt32) : (Lit.int .u32 (x.toNat : Int)).wf = true := by have := lt32 x; simp [Lit.wf, IntKind.min, IntKind.max, IntKind.signed, IntKind.bits]; omega
theorem wf64 (x : UInt64) : (Lit.int .u64 (x.toNat : Int)).wf = true := by have := lt64 x; simp [Lit.wf, IntKind.min, IntKind.max, IntKind.signed, IntKind.bits]; omega

def PtrV.lits (x : PtrV) : List Lit := [.int .u8 x.kind.toNat, .int .u16 x.a0.toNat, .int .u16 x.a1.toNat, .int .u32 x.birth.toNat, .int .u64 x.sum.toNat]

theorem ptr_keys (x : PtrV) : Tryd.prog.keyLits 4 27 x.cs = some x.lits := by
  have u27 := Tryd.underlying27
  have u24 := Tryd.underlying24
  have u5 := Tryd.underlying5
  have u22 := Tryd.underlying22
  have u23 := Tryd.underlying23
  have u25 := Tryd.underlying25
  have c24 : Tryd.prog.cellsOf 24 = 2 := by kernel_rfl
  have c27 : Tryd.prog.cellsOf 27 = 5 := by kernel_rfl
  have c5 : Tryd.prog.cellsOf 5 = 1 := by kernel_rfl
  have c22 : Tryd.prog.cellsOf 22 = 1 := by kernel_rfl
  have c23 : Tryd.prog.cellsOf 23 = 1 := by kernel_rfl
  have c25 : Tryd.prog.cellsOf 25 = 1 := by kernel_rfl
  simp [Program.keyLits, u27, u24, u5, u22, u23, u25, c24, c27, c5, c22, c23, c25, PtrV.cs, PtrV.lits, wf8, wf16, wf32, wf64, List.mapM_cons, List.range_succ]

theorem nat8 {x y : UInt8} : (x.toNat : Int) = (y.toNat : Int) ↔ x = y := by rw [Int.natCast_inj]; exact UInt8.toNat_inj
theorem nat16 {x y : UInt16} : (x.toNat : Int) = (y.toNat : Int) ↔ x = y := by rw [Int.natCast_inj]; exact UInt16.toNat_inj
theorem nat32 {x y : UInt32} : (x.toNat : Int) = (y.toNat : Int) ↔ x = y := by rw [Int.natCast_inj]; exact UInt32.toNat_inj
theorem nat64 {x y : UInt64} : (x.toNat : Int) = (y.toNat : Int) ↔ x = y := by rw [Int.natCast_inj]; exact UInt64.toNat_inj

theorem ptr_eq (x y : PtrV) (w : World) : (Op.equalIn 10000 27 (.agg x.cs.toArray) (.agg y.cs.toArray)).run Tryd.prog w = .ok (decide (x = y)) w := by
  obtain ⟨r, h1, h2⟩ := run_equalIn_deep (P := Tryd.prog) 9996 4 27 (by kernel_rfl) w 4 4 (.agg x.cs.toArray) (.agg y.cs.toArray) x.lits y.lits (by kernel_rfl) (by kernel_rfl) (by simpa [Value.cells] using ptr_keys x) (by simpa [Value.cells] using ptr_keys y)
  rw [show (10000 : Nat) = 9996 + 4 from rfl, h1]
  have e : x.lits = y.lits ↔ x = y := by
    constructor
    · intro h
      cases x; cases y
      simp only [PtrV.lits, List.cons.injEq, Lit.int.injEq, true_and, and_true, nat8, nat16, nat32, nat64] at h
      obtain ⟨rfl, rfl, rfl, rfl, rfl⟩ := h
      rfl
    · rintro rfl; rfl
  congr 1
  rw [Bool.eq_iff_iff, h2, e]
  simp

theorem c_none (G : Res) (x : PtrV) : Ctr Tryd.prog G 50 [x.v] [] [] (ret1 (vb (decide (x = PtrV.none)))) := by
  refine Ctr.intro Tryd.func50 (by kernel_rfl) rfl Tryd.ntmps50 rfl rfl rfl fun w X => ?_
  refine sw_seq ?_
  refine sw_region ?_
  refine r_box (k := fun bx => ?_)
  refine r_assign (k := ?_)
  refine sl_nil ?_
  refine sp_then ?_
  refine sw_seq ?_
  refine sw_region ?_
  refine r_load_all (k := ?_)
  refine r_buildP (parts := []) PtrV.none.cs (by exact rfl) (by kernel_rfl) (by exact rfl) ?_
  refine r_eqagg (xs := x.cs.toArray) (ys := PtrV.none.cs.toArray) (by exact rfl) (by exact rfl) (by kernel_rfl) (ptr_eq x PtrV.none) (by exact rfl) ?_
  refine r_assign (k := ?_)
  refine sl_nil ?_
  refine sp_then ?_
  refine sw_ret ?_
  refine sp_retv rfl rfl (.tmp rfl) rfl rfl ⟨rfl, rfl, rfl⟩ (by simp) rfl (by simp)

def PtrV.isMeta (x : PtrV) : Bool := decide ((x.kind.toNat : Int) = 1) || decide ((x.kind.toNat : Int) = 2)
theorem c_meta (G : Res) (x : PtrV) : Ctr Tryd.prog G 51 [x.v] [] [] (ret1 (vb x.isMeta)) := by
  refine Ctr.intro Tryd.func51 (by kernel_rfl) rfl Tryd.ntmps51 rfl rfl rfl fun w X => ?_
  refine sw_seq ?_
  refine sw_region ?_
  refine r_box (k := fun bx => ?_)
  refine r_assign (k := ?_)
  refine sl_nil ?_
  refine sp_then ?_
  refine sw_seq ?_
  refine sw_region ?_
  refine r_fieldAddr (k := ?_)
  refine r_load_one (k := ?_)
  refine r_eql (k := ?_)
  refine r_move (k := ?_)
  refine g_part (h1 := fun hg => ?_) (h2 := fun hg => ?_)
  focus
    refine gd_no (k := ?_)
    refine gd_no (k := ?_)
    refine gd_no (k := ?_)
    refine rd_pick_t (k := ?_)
    refine r_assign (k := ?_)
    refine sl_nil ?_
    refine sp_then ?_
    refine sw_ret ?_
  rotate_left 1
  focus
    refine gd_yes (k := ?_)
    refine r_fieldAddr (k := ?_)
    refine gd_yes (k := ?_)
    refine r_load_one (k := ?_)
    refine gd_yes (k := ?_)
    refine r_eql (k := ?_)
    refine rd_pick_f (k := ?_)
    refine r_assign (k := ?_)
    refine sl_nil ?_
    refine sp_then ?_
    refine sw_ret ?_
  rotate_left 1
  all_goals refine sp_retv rfl rfl (.tmp rfl) rfl rfl ⟨?_, rfl, rfl⟩ (by simp) rfl (by simp)
  all_goals simp_all [PtrV.isMeta]

def iElt (n : Int) (vs : List Value) : Res := Res.pure (vs = [vi n])
def PtrV.addrs (x : PtrV) : List Int := if x.isMeta then [(x.a0.toNat : Int), (x.a1.toNat : Int)] else if (x.kind.toNat : Int) = 3 then [(x.a0.toNat : Int)] else []

theorem c_addresses (G : Res) (x : PtrV) : Ctr Tryd.prog G 88 [x.v] [] [] (retF fun v Φ' => ∃ b, v = .func (.func 112) #[] #[.pointer (some ⟨b, 0, none⟩)] ∧ Φ' = [Res.mem (some ⟨b, 0, none⟩) x.cs]) := by
  refine Ctr.intro Tryd.func88 (by kernel_rfl) rfl Tryd.ntmps88 rfl rfl rfl fun w X => ?_
  refine sw_seq ?_
  refine sw_region ?_
  refine r_box (k := fun bx => ?_)
  refine r_assign (k := ?_)
  refine sl_nil ?_
  refine sp_then ?_
  refine sw_seq ?_
  refine sw_region ?_
  refine r_clos (k := ?_)
  refine r_assign (k := ?_)
  refine sl_nil ?_
  refine sp_then ?_
  refine sw_ret ?_
  refine sp_freeze ?_
  refine sp_retv rfl rfl (.tmp rfl) rfl rfl ⟨rfl, _, rfl, rfl⟩ (by simp) rfl (by simp)

theorem i_addresses (G : Res) (b : Nat) (x : PtrV) : ICtr Tryd.prog G 112 [.pointer (some ⟨b, 0, none⟩)] [] [Res.mem (some ⟨b, 0, none⟩) x.cs] iElt x.addrs := by
  refine ICtr.intro Tryd.func112 (by kernel_rfl) rfl Tryd.ntmps112 rfl rfl (fun _ => rfl) fun σ J Y go A l s0 w' X M hgo hA hY => ?_
  have h0 := At.start hgo hA
  refine sw_seq ?_
  refine sw_seq ?_
  refine sw_region ?_
  refine r_load_fr (k := ?_)
  refine r_call1 (c_meta G x) (by exact rfl) (by exact rfl) (by exact rfl) (by simp) (by exact rfl) ?_
  refine r_not (k := ?_)
  refine r_move (k := ?_)
  refine g_part (h1 := fun hg => ?_) (h2 := fun hg => ?_)
  focus
    refine gd_yes (k := ?_)
    refine r_fieldAddr (k := ?_)
    refine gd_yes (k := ?_)
    refine r_load_fr1 (k := ?_)
    refine gd_yes (k := ?_)
    refine r_neq (k := ?_)
    refine rd_pick_t (k := ?_)
    refine r_move (k := ?_)
    refine g_part (h1 := fun hg => ?_) (h2 := fun hg => ?_)
    focus
      refine gd_no (k := ?_)
      refine gd_no (k := ?_)
      refine gd_no (k := ?_)
      refine gd_no (k := ?_)
      refine gd_no (k := ?_)
      refine gd_no (k := ?_)
      refine gd_no (k := ?_)
      refine rd_pick_t (k := ?_)
      refine sl_nil ?_
      refine sp_then ?_
      refine swd_t (h := ?_)
      refine sw_ret ?_
      refine sp_then_ret ?_
    rotate_left 1
    focus
      refine gd_yes (k := ?_)
      refine r_move (k := ?_)
      refine gd_yes (k := ?_)
      refine r_fieldAddr (k := ?_)
      refine gd_yes (k := ?_)
      refine r_idx_arr (k := ?_)
      refine gd_yes (k := ?_)
      refine r_load_fr1 (k := ?_)
      refine gd_yes (k := ?_)
      refine r_cv_16_i (k := ?_)
      refine gd_yes (k := ?_)
    rotate_left 1
  rotate_left 2
  focus
    refine gd_no (k := ?_)
    refine gd_no (k := ?_)
    refine gd_no (k := ?_)
    refine rd_pick_f (k := ?_)
    refine r_move (k := ?_)
    refine gd_yes (k := ?_)
    refine r_move (k := ?_)
    refine gd_yes (k := ?_)
    refine r_fieldAddr (k := ?_)
    refine gd_yes (k := ?_)
    refine r_idx_arr (k := ?_)
    refine gd_yes (k := ?_)
    refine r_load_fr1 (k := ?_)
    refine gd_yes (k := ?_)
    refine r_cv_16_i (k := ?_)
    refine gd_yes (k := ?_)
  rotate_left 1
  · have e : x.addrs = [] := by simp_all [PtrV.addrs]
    rw [e] at h0
    refine sp_iret rfl rfl rfl ⟨by rw [e]; exact h0.done, rfl, rfl⟩ (by simp) rfl (by simp) rfl
  · rename_i hm
    have hm : x.isMeta = false := by simpa using hm
    have e : x.addrs = [(x.a0.toNat : Int)] := by simp_all [PtrV.addrs]
    rw [e] at h0
    refine r_yield hY hgo h0.give (by exact rfl) (by exact rfl) (el := (x.a0.toNat : Int)) (fun _ _ _ => rfl) (by exact rfl) ?_
    refine gd_yes (k := ?_)
    refine r_not (k := ?_)
    refine rd_pick_f (k := ?_)
    refine sl_nil ?_
    refine sp_then ?_
    cases hg : go (Y s0 (x.a0.toNat : Int))
    · refine swd_t (h := ?_)
      refine sw_ret ?_
      refine sp_then_ret ?_
      refine sp_iret rfl rfl rfl ⟨by rw [e]; exact h0.stop hg, rfl, rfl⟩ (by simp) rfl (by simp) rfl
    · have h1 := h0.next hg
      refine swd_f (h := ?_)
      refine sw_skip ?_
      refine sp_then ?_
      refine sw_seq ?_
      refine sw_region ?_
      refine r_load_fr (k := ?_)
      refine r_call1 (c_meta G x) (by exact rfl) (by exact rfl) (by exact rfl) (by simp) (by exact rfl) ?_
      rw [hm]
      refine sl_nil ?_
      refine sp_then ?_
      refine swd_f (h := ?_)
      refine sw_skip ?_
      refine sp_inorm rfl rfl rfl ⟨by rw [e]; exact h1.done, rfl, rfl⟩ (by simp) rfl (by simp) rfl
  · have hm : x.isMeta = true := by simpa using hg
    have e : x.addrs = [(x.a0.toNat : Int), (x.a1.toNat : Int)] := by simp_all [PtrV.addrs]
    rw [e] at h0
    refine r_yield hY hgo h0.give (by exact rfl) (by exact rfl) (el := (x.a0.toNat : Int)) (fun _ _ _ => rfl) (by exact rfl) ?_
    refine gd_yes (k := ?_)
    refine r_not (k := ?_)
    refine rd_pick_f (k := ?_)
    refine sl_nil ?_
    refine sp_then ?_
    cases hg : go (Y s0 (x.a0.toNat : Int))
    · refine swd_t (h := ?_)
      refine sw_ret ?_
      refine sp_then_ret ?_
      refine sp_iret rfl rfl rfl ⟨by rw [e]; exact h0.stop hg, rfl, rfl⟩ (by simp) rfl (by simp) rfl
    · have h1 := h0.next hg
      refine swd_f (h := ?_)
      refine sw_skip ?_
      refine sp_then ?_
      refine sw_seq ?_
      refine sw_region ?_
      refine r_load_fr (k := ?_)
      refine r_call1 (c_meta G x) (by exact rfl) (by exact rfl) (by exact rfl) (by simp) (by exact rfl) ?_
      rw [hm]
      refine sl_nil ?_
      refine sp_then ?_
      refine swd_t (h := ?_)
      refine sw_region ?_
      refine r_move (k := ?_)
      refine r_fieldAddr (k := ?_)
      refine r_idx_arr (k := ?_)
      refine r_load_fr1 (k := ?_)
      refine r_cv_16_i (k := ?_)
      refine r_yield hY h1.go' h1.give (by exact rfl) (by exact rfl) (el := (x.a1.toNat : Int)) (fun _ _ _ => rfl) (by exact rfl) ?_
      refine sl_nil ?_
      cases hg : go (Y (Y s0 (x.a0.toNat : Int)) (x.a1.toNat : Int))
      · refine sp_inorm rfl rfl rfl ⟨by rw [e]; exact h1.stop hg, rfl, rfl⟩ (by simp) rfl (by simp) rfl
      · refine sp_inorm rfl rfl rfl ⟨by rw [e]; exact (h1.next hg).done, rfl, rfl⟩ (by simp) rfl (by simp) rfl

/-- The widths of a pointer's numbers. -/
def GW : Res := Res.mem (some ⟨0, 0, none⟩) [vi 1, vi 2, vi 2, vi 4, vi 8]

def PtrV.pre (x : PtrV) : Bool := (decide (1 ≤ (x.birth.toNat : Int)) && decide ((x.birth.toNat : Int) ≤ 1073741824)) && ((x.isMeta && decide ((x.a0.toNat : Int) ≠ (x.a1.toNat : Int))) || (decide ((x.kind.toNat : Int) = 3) && decide ((x.a1.toNat : Int) = 0)))
def PtrV.right (x : PtrV) (size : Int) : Bool := x.pre && x.addrs.all fun at' => decide (4 ≤ at') && decide (at' < size)

def looks (size : Int) (s : Bool × Bool) (at' : Int) : Bool × Bool := (s.1 && decide (4 ≤ at') && decide (at' < size), !(s.1 && decide (4 ≤ at') && decide (at' < size)))
theorem c_pright (G : Res) (x : PtrV) (size : Int) : Ctr Tryd.prog G 52 [x.v, vi size] [] [] (ret1 (vb (x.right size))) := by
  refine Ctr.intro Tryd.func52 (by kernel_rfl) rfl Tryd.ntmps52 rfl rfl rfl fun w X => ?_
  refine sw_seq ?_
  refine sw_region ?_
  refine r_box (by exact rfl) (by exact rfl) (by exact rfl) fun p => ?_
  refine r_box (by exact rfl) (by exact rfl) (by exact rfl) fun bx => ?_
  refine r_alloc (by exact z4) (by exact rfl) (by exact rfl) fun b => ?_
  refine sl_nil ?_
  refine sp_then ?_
  refine sw_scope ?_
  refine sw_cut [(2, .pointer (some ⟨p, 0, none⟩)), (3, .pointer (some ⟨bx, 0, none⟩)), (4, .pointer (some ⟨b, 0, none⟩))] [.box b [vb x.pre] 4, .box bx [vi size] 3, .box p x.cs 27] [] [] ?_ ?_
  · refine sw_region ?_
    refine r_fieldAddr (k := ?_)
    refine r_load_one (k := ?_)
    refine r_geq (k := ?_)
    refine r_move (k := ?_)
    refine g_part (h1 := fun hg => ?_) (h2 := fun hg => ?_)
    focus
      refine gd_yes (k := ?_)
      refine r_fieldAddr (k := ?_)
      refine gd_yes (k := ?_)
      refine r_load_one (k := ?_)
      refine gd_yes (k := ?_)
      refine r_leq (k := ?_)
      refine rd_pick_t (k := ?_)
      refine r_move (k := ?_)
      refine g_part (h1 := fun hg => ?_) (h2 := fun hg => ?_)
      focus
        refine gd_yes (k := ?_)
        refine r_load_all (k := ?_)
        refine gd_yes (k := ?_)
      rotate_left 1
      focus
        refine gd_no (k := ?_)
        refine gd_no (k := ?_)
        refine gd_no (k := ?_)
        refine gd_un (k := ?_)
        refine gd_un (k := ?_)
        refine gd_un (k := ?_)
        refine gd_un (k := ?_)
        refine gd_un (k := ?_)
        refine gd_un (k := ?_)
        refine gd_un (k := ?_)
        refine gd_no (k := ?_)
        refine gd_no (k := ?_)
        refine gd_un (k := ?_)
        refine gd_un (k := ?_)
        refine gd_un (k := ?_)
        refine gd_un (k := ?_)
        refine gd_un (k := ?_)
        refine gd_un (k := ?_)
        refine gd_un (k := ?_)
        refine gd_un (k := ?_)
        refine gd_un (k := ?_)
        refine gd_no (k := ?_)
        refine rd_pick_f (k := ?_)
        refine r_store_all (k := ?_)
        refine sl_nil ?_
      rotate_left 1
    rotate_left 2
    focus
      refine gd_no (k := ?_)
      refine gd_no (k := ?_)
      refine gd_no (k := ?_)
      refine rd_pick_f (k := ?_)
      refine r_move (k := ?_)
      refine gd_no (k := ?_)
      refine gd_no (k := ?_)
      refine gd_no (k := ?_)
      refine gd_un (k := ?_)
      refine gd_un (k := ?_)
      refine gd_un (k := ?_)
      refine gd_un (k := ?_)
      refine gd_un (k := ?_)
      refine gd_un (k := ?_)
      refine gd_un (k := ?_)
      refine gd_no (k := ?_)
      refine gd_no (k := ?_)
      refine gd_un (k := ?_)
      refine gd_un (k := ?_)
      refine gd_un (k := ?_)
      refine gd_un (k := ?_)
      refine gd_un (k := ?_)
      refine gd_un (k := ?_)
      refine gd_un (k := ?_)
      refine gd_un (k := ?_)
      refine gd_un (k := ?_)
      refine gd_no (k := ?_)
      refine rd_pick_f (k := ?_)
      refine r_store_all (k := ?_)
      refine sl_nil ?_
    rotate_left 1
    any_goals refine r_call1 (c_meta G x) (by exact rfl) (by exact rfl) (by exact rfl) (by simp) (by exact rfl) ?_
    focus
      refine gd_yes (k := ?_)
      refine r_move (k := ?_)
      refine g_part (h1 := fun hg => ?_) (h2 := fun hg => ?_)
      focus
        refine gd_yes (k := ?_)
        refine r_fieldAddr (k := ?_)
        refine gd_yes (k := ?_)
        refine r_idx_arr (k := ?_)
        refine gd_yes (k := ?_)
        refine r_load_one (k := ?_)
        refine gd_yes (k := ?_)
        refine r_fieldAddr (k := ?_)
        refine gd_yes (k := ?_)
        refine r_idx_arr (k := ?_)
        refine gd_yes (k := ?_)
        refine r_load_one (k := ?_)
        refine gd_yes (k := ?_)
        refine r_neq (k := ?_)
        refine gd_yes (k := ?_)
        refine rd_pick_t (k := ?_)
        refine gd_yes (k := ?_)
        refine r_move (k := ?_)
        refine g_part (h1 := fun hg => ?_) (h2 := fun hg => ?_)
        focus
          refine gd_no (k := ?_)
          refine gd_no (k := ?_)
          refine gd_no (k := ?_)
          refine gd_no (k := ?_)
          refine gd_un (k := ?_)
          refine gd_un (k := ?_)
          refine gd_un (k := ?_)
          refine gd_un (k := ?_)
          refine gd_no (k := ?_)
          refine gd_yes (k := ?_)
          refine rd_pick_t (k := ?_)
          refine rd_pick_t (k := ?_)
          refine r_store_all (k := ?_)
          refine sl_nil ?_
        rotate_left 1
        focus
          refine gd_yes (k := ?_)
          refine r_fieldAddr (k := ?_)
          refine gd_yes (k := ?_)
          refine r_load_one (k := ?_)
          refine gd_yes (k := ?_)
          refine r_eql (k := ?_)
          refine gd_yes (k := ?_)
          refine r_move (k := ?_)
          refine g_part (h1 := fun hg => ?_) (h2 := fun hg => ?_)
          focus
            refine gd_yes (k := ?_)
            refine r_fieldAddr (k := ?_)
            refine gd_yes (k := ?_)
            refine r_idx_arr (k := ?_)
            refine gd_yes (k := ?_)
            refine r_load_one (k := ?_)
            refine gd_yes (k := ?_)
            refine r_eql (k := ?_)
            refine gd_yes (k := ?_)
            refine rd_pick_t (k := ?_)
            refine gd_yes (k := ?_)
            refine rd_pick_f (k := ?_)
            refine rd_pick_t (k := ?_)
            refine r_store_all (k := ?_)
            refine sl_nil ?_
          rotate_left 1
          focus
            refine gd_no (k := ?_)
            refine gd_no (k := ?_)
            refine gd_no (k := ?_)
            refine gd_no (k := ?_)
            refine gd_yes (k := ?_)
            refine rd_pick_f (k := ?_)
            refine gd_yes (k := ?_)
            refine rd_pick_f (k := ?_)
            refine rd_pick_t (k := ?_)
            refine r_store_all (k := ?_)
            refine sl_nil ?_
          rotate_left 1
        rotate_left 2
      rotate_left 3
      focus
        refine gd_no (k := ?_)
        refine gd_no (k := ?_)
        refine gd_no (k := ?_)
        refine gd_no (k := ?_)
        refine gd_no (k := ?_)
        refine gd_no (k := ?_)
        refine gd_no (k := ?_)
        refine gd_yes (k := ?_)
        refine rd_pick_f (k := ?_)
        refine gd_yes (k := ?_)
        refine r_move (k := ?_)
        refine gd_yes (k := ?_)
        refine r_fieldAddr (k := ?_)
        refine gd_yes (k := ?_)
        refine r_load_one (k := ?_)
        refine gd_yes (k := ?_)
        refine r_eql (k := ?_)
        refine gd_yes (k := ?_)
        refine r_move (k := ?_)
        refine g_part (h1 := fun hg => ?_) (h2 := fun hg => ?_)
        focus
          refine gd_yes (k := ?_)
          refine r_fieldAddr (k := ?_)
          refine gd_yes (k := ?_)
          refine r_idx_arr (k := ?_)
          refine gd_yes (k := ?_)
          refine r_load_one (k := ?_)
          refine gd_yes (k := ?_)
          refine r_eql (k := ?_)
          refine gd_yes (k := ?_)
          refine rd_pick_t (k := ?_)
          refine gd_yes (k := ?_)
          refine rd_pick_f (k := ?_)
          refine rd_pick_t (k := ?_)
          refine r_store_all (k := ?_)
          refine sl_nil ?_
        rotate_left 1
        focus
          refine gd_no (k := ?_)
          refine gd_no (k := ?_)
          refine gd_no (k := ?_)
          refine gd_no (k := ?_)
          refine gd_yes (k := ?_)
          refine rd_pick_f (k := ?_)
          refine gd_yes (k := ?_)
          refine rd_pick_f (k := ?_)
          refine rd_pick_t (k := ?_)
          refine r_store_all (k := ?_)
          refine sl_nil ?_
        rotate_left 1
      rotate_left 2
    rotate_left 5
    rotate_left 1
    rotate_left 1
    all_goals refine sp_cutB (by repeat' (first | trivial | exact rfl | apply And.intro)) trivial ?_
    all_goals (simp_all [PtrV.pre] <;> (intros; omega))
  · refine sw_seq ?_
    refine sw_label ?_
    refine sp_then ?_
    refine sw_seq ?_
    refine sw_seq ?_
    refine sw_region ?_
    refine r_load_all (k := ?_)
    refine r_callF (c_addresses G x) (by exact rfl) (by exact rfl) (by exact rfl) (by simp) (by exact rfl) ?_
    rintro _ _ ⟨q, rfl, rfl⟩
    refine sl_nil ?_
    refine sp_then ?_
    refine sw_block ?_
    have key : ∀ (L : List Int) (r : Bool), (runs (looks size) (fun s => ((bif s.2 then some (Code.exit 0) else none).isNone)) (r, false) L).1 = (r && L.all fun at' => decide (4 ≤ at') && decide (at' < size)) := by
      intro L
      induction L with
      | nil => intro r; simp [runs]
      | cons a l ih =>
        intro r
        cases h : (r && decide (4 ≤ a) && decide (a < size))
        · rw [runs_stop (by simp [looks, h])]
          show (r && decide (4 ≤ a) && decide (a < size)) = _
          rw [List.all_cons, ← Bool.and_assoc, ← Bool.and_assoc, h]; rfl
        · rw [runs_cons (by simp [looks, h])]
          have e : looks size (r, false) a = (true, false) := by simp [looks, h]
          rw [e, ih, List.all_cons, ← Bool.and_assoc, ← Bool.and_assoc, h]
    refine sw_range0 (ι := Unit) (i_addresses G q x) (fun r _ => [.box b [vb r.1] 4, .box bx [vi size] 3, .box p x.cs 27]) (fun _ _ => []) (fun s => bif s.2 then some (.exit 0) else none) (looks size) (fun _ _ => True) (x.pre, false) () rfl rfl rfl (adm_true _ _) rfl (by simp) (by simp) (fun _ _ => rfl) rfl (fun x vs V w h => by rw [show vs = [vi x] from h]; rfl) ?_ ?_
    · rintro l mk rec w X U K ⟨r, st⟩ _ at' vs hrec hj _ ht
      have hst : st = false := by cases st <;> simp_all
      subst hst
      refine w_pure ?_
      rintro rfl
      refine sw_region ?_
      refine r_assign (k := ?_)
      refine sl_nil ?_
      refine sp_asgR hrec rfl ?_
      dsimp only [pull, push, two, List.drop, List.take, List.cons_append, List.nil_append]
      refine sw_block ?_
      refine sw_seq ?_
      refine sw_region ?_
      refine r_load_one (k := ?_)
      refine r_move (k := ?_)
      refine g_part (h1 := fun hg => ?_) (h2 := fun hg => ?_)
      focus
        refine gd_yes (k := ?_)
        refine r_move (k := ?_)
        refine gd_yes (k := ?_)
        refine r_geq (k := ?_)
        refine rd_pick_t (k := ?_)
        refine r_move (k := ?_)
        refine g_part (h1 := fun hg => ?_) (h2 := fun hg => ?_)
        focus
          refine gd_yes (k := ?_)
          refine r_move (k := ?_)
          refine gd_yes (k := ?_)
          refine r_load_one (k := ?_)
          refine gd_yes (k := ?_)
          refine r_lss (k := ?_)
          refine rd_pick_t (k := ?_)
          refine r_store_all (k := ?_)
          refine sl_nil ?_
          refine sp_then ?_
          refine sw_seq ?_
          refine sw_region ?_
          refine r_load_one (k := ?_)
          refine r_not (k := ?_)
          refine sl_nil ?_
          refine sp_then ?_
          refine sw_cond (h1 := fun hg => ?_) (h2 := fun hg => ?_)
          focus
            refine sw_exit ?_
            refine sp_block_exit' (h := ?_)
          rotate_left 1
          focus
            refine sw_skip ?_
            refine sp_block ?_
          rotate_left 1
        rotate_left 2
        focus
          refine gd_no (k := ?_)
          refine gd_no (k := ?_)
          refine gd_no (k := ?_)
          refine rd_pick_f (k := ?_)
          refine r_store_all (k := ?_)
          refine sl_nil ?_
          refine sp_then ?_
          refine sw_seq ?_
          refine sw_region ?_
          refine r_load_one (k := ?_)
          refine r_not (k := ?_)
          refine sl_nil ?_
          refine sp_then ?_
          refine swd_t (h := ?_)
          refine sw_exit ?_
          refine sp_block_exit' (h := ?_)
        rotate_left 1
      rotate_left 3
      focus
        refine gd_no (k := ?_)
        refine gd_no (k := ?_)
        refine rd_pick_f (k := ?_)
        refine r_move (k := ?_)
        refine gd_no (k := ?_)
        refine gd_no (k := ?_)
        refine gd_no (k := ?_)
        refine rd_pick_f (k := ?_)
        refine r_store_all (k := ?_)
        refine sl_nil ?_
        refine sp_then ?_
        refine sw_seq ?_
        refine sw_region ?_
        refine r_load_one (k := ?_)
        refine r_not (k := ?_)
        refine sl_nil ?_
        refine sp_then ?_
        refine swd_t (h := ?_)
        refine sw_exit ?_
        refine sp_block_exit' (h := ?_)
      rotate_left 1
      all_goals
        unfold looks
        clear key
        generalize decide (4 ≤ at') = d1 at *
        generalize decide (at' < size) = d2 at *
        cases d1 <;> cases d2 <;> cases r <;> first | contradiction | skip
      all_goals first
        | exact sp_round_exit (ι := Unit) (i' := ()) ht hrec rfl (List.Sublist.refl _) (by simp)
        | exact sp_round (ι := Unit) (i' := ()) ht hrec rfl (List.Sublist.refl _) (by simp)
    · rintro ⟨r, st⟩ _ mk hs
      have hr : r = x.right size := by
        have := key x.addrs x.pre
        rw [← hs] at this
        exact this
      subst hr
      cases st
      · refine ⟨fun _ => ?_, fun j h => (by cases h)⟩
        refine sp_block ?_
        refine sp_then ?_
        refine sw_seq ?_
        refine sw_region ?_
        refine r_load_one (k := ?_)
        refine r_store_all (k := ?_)
        refine sl_nil ?_
        refine sp_then ?_
        refine sw_ret ?_
        refine sp_ng_ret ?_
        refine sp_retv rfl rfl (.one rfl (tz rfl) (.tail _ (.head _))) rfl rfl ⟨rfl, rfl, rfl⟩ (by simp) rfl (by simp)
      · refine ⟨fun h => (by cases h), fun j h => ?_⟩
        obtain rfl : Code.exit 0 = j := by simpa using h
        refine sw_exit ?_
        refine sp_block_exit ?_
        refine sp_then ?_
        refine sw_seq ?_
        refine sw_region ?_
        refine r_load_one (k := ?_)
        refine r_store_all (k := ?_)
        refine sl_nil ?_
        refine sp_then ?_
        refine sw_ret ?_
        refine sp_ng_ret ?_
        refine sp_retv rfl rfl (.one rfl (tz rfl) (.tail _ (.head _))) rfl rfl ⟨rfl, rfl, rfl⟩ (by simp) rfl (by simp)

theorem w_g {c : Ctx} {ρ : List (Nat × Value)} {B : List Own} {Φ : List Res} {Ψ : List JR} {Q : Post} {code : Code} (k : SW c ρ B (c.G :: Φ) Ψ code Q) : SW c ρ B Φ Ψ code Q := sl_to_sw (fun h => f_g h) k

/-- Numbers, and how wide they are: their bytes. -/
def packed (l : List (UInt64 × Nat)) : List UInt8 := l.flatMap fun p => le p.2 p.1
theorem packed_snoc (l : List (UInt64 × Nat)) (n : UInt64) (w : Nat) : packed (l ++ [(n, w)]) = packed l ++ le w n := by simp [packed]
def PtrV.nums (x : PtrV) : List (UInt64 × Nat) := [(x.kind.toUInt64, 1), (x.a0.toUInt64, 2), (x.a1.toUInt64, 2), (x.birth.toUInt64, 4), (x.sum, 8)]
def PtrV.bytes (x : PtrV) : List UInt8 := packed x.nums

theorem packed_len (l : List (UInt64 × Nat)) : (packed l).length = (l.map (·.2)).sum := by
  induction l with
  | nil => rfl
  | cons p l ih => simp only [packed, List.flatMap_cons, List.length_append, le_length, List.map_cons, List.sum_cons] at ih ⊢; rw [ih]

theorem c_pput (s : BS) (x : PtrV) (hok : s.ok) (hl : s.xs.length ≤ 1099511627776) : Ctr Tryd.prog GW 46 [s.v, x.v] [] [s.res] (retB (s.xs ++ x.bytes)) := by
  refine Ctr.intro Tryd.func46 (by kernel_rfl) rfl Tryd.ntmps46 rfl rfl rfl fun w X => ?_
  refine w_g ?_
  refine sw_seq ?_
  refine sw_region ?_
  refine r_box (k := fun bx => ?_)
  refine r_assign (k := ?_)
  refine sl_nil ?_
  refine sp_then ?_
  refine sw_seq ?_
  refine sw_seq ?_
  refine sw_region ?_
  refine r_fieldAddr (k := ?_)
  refine r_load_one (k := ?_)
  refine r_cv_8_64 (k := ?_)
  refine r_fieldAddr (k := ?_)
  refine r_idx_arr (k := ?_)
  refine r_load_one (k := ?_)
  refine r_cv_16_64 (k := ?_)
  refine r_fieldAddr (k := ?_)
  refine r_idx_arr (k := ?_)
  refine r_load_one (k := ?_)
  refine r_cv_16_64 (k := ?_)
  refine r_fieldAddr (k := ?_)
  refine r_load_one (k := ?_)
  refine r_cv_32_64 (k := ?_)
  refine r_fieldAddr (k := ?_)
  refine r_load_one (k := ?_)
  refine r_buildP [v64 x.kind.toUInt64, v64 x.a0.toUInt64, v64 x.a1.toUInt64, v64 x.birth.toUInt64, v64 x.sum] (parts := [(0, .tmp 9), (1, .tmp 13), (2, .tmp 17), (3, .tmp 20), (4, .tmp 22)]) (by exact rfl) (by kernel_rfl) (by exact rfl) ?_
  refine r_move (k := ?_)
  refine sl_nil ?_
  refine sp_then ?_
  refine sw_block ?_
  refine sw_loop (ι := { p : Nat × BS // p.1 ≤ 5 ∧ p.2.ok ∧ p.2.xs = s.xs ++ packed (x.nums.take p.1) })
    (fun p => [(0, p.1.2.v), (23, .agg #[v64 x.kind.toUInt64, v64 x.a0.toUInt64, v64 x.a1.toUInt64, v64 x.birth.toUInt64, v64 x.sum]), (24, vi (p.1.1 : Int))]) (fun _ => [.box bx x.cs 27]) (fun p => [p.1.2.res, GW]) (fun _ => []) (fun p => 5 - p.1.1) ⟨(0, s), by simp, hok, by simp [packed]⟩ ?_ fun i => ?_
  · exact Ent.mk' (by repeat' (first | trivial | exact rfl | apply And.intro)) (by repeat' (first | trivial | exact .head _ | exact .tail _ (.head _) | exact .tail _ (.tail _ (.head _)) | exact .tail _ (.tail _ (.tail _ (.head _))) | exact .tail _ (.tail _ (.tail _ (.tail _ (.head _)))) | exact .tail _ (.tail _ (.tail _ (.tail _ (.tail _ (.head _))))) | exact .tail _ (.tail _ (.tail _ (.tail _ (.tail _ (.tail _ (.head _)))))) | exact .tail _ (.tail _ (.tail _ (.tail _ (.tail _ (.tail _ (.tail _ (.head _))))))) | exact .tail _ (.tail _ (.tail _ (.tail _ (.tail _ (.tail _ (.tail _ (.tail _ (.head _)))))))) | exact .tail _ (.tail _ (.tail _ (.tail _ (.tail _ (.tail _ (.tail _ (.tail _ (.tail _ (.head _))))))))) | exact .tail _ (.tail _ (.tail _ (.tail _ (.tail _ (.tail _ (.tail _ (.tail _ (.tail _ (.tail _ (.head _)))))))))) | exact .tail _ (.tail _ (.tail _ (.tail _ (.tail _ (.tail _ (.tail _ (.tail _ (.tail _ (.tail _ (.tail _ (.head _))))))))))) | apply And.intro))
  obtain ⟨⟨i, s'⟩, hi, hok', hx⟩ := i
  dsimp only at hi hok' hx ⊢
  refine sw_seq ?_
  refine sw_region ?_
  refine r_lss (k := ?_)
  refine sl_nil ?_
  refine sp_then ?_
  refine sw_seq ?_
  refine sw_cond rfl (fun h => ?_) (fun h => ?_)
  · have h := of_decide_eq_true h
    have hlen : s'.xs.length ≤ 1099511627776 + 17 := by
      rw [hx, List.length_append, packed_len]
      have : ((x.nums.take i).map (·.2)).sum ≤ 17 := by
        have : i = 0 ∨ i = 1 ∨ i = 2 ∨ i = 3 ∨ i = 4 := by omega
        rcases this with rfl | rfl | rfl | rfl | rfl <;> simp [PtrV.nums]
      omega
    have hc : i = 0 ∨ i = 1 ∨ i = 2 ∨ i = 3 ∨ i = 4 := by omega
    refine sw_skip ?_
    refine sp_then ?_
    refine sw_seq ?_
    refine sw_block ?_
    refine sw_seq ?_
    refine sw_region ?_
    refine r_move (k := ?_)
    rcases hc with rfl | rfl | rfl | rfl | rfl
    all_goals refine r_index (by exact ta rfl) (by exact tz rfl) (by exact rfl) (by exact rfl) (by omega) (by omega) (by exact Int.toNat_natCast _) (by exact rfl) (by exact rfl) ?_
    focus
      refine r_assign (k := ?_)
      refine r_assign (k := ?_)
      refine sl_nil ?_
      refine sp_then ?_
      refine sw_region ?_
      refine r_move (k := ?_)
      refine r_move (k := ?_)
      refine r_move (k := ?_)
      refine r_idx_arr (k := ?_)
      refine r_load_fr1 (k := ?_)
    rotate_left 1
    focus
      refine r_assign (k := ?_)
      refine r_assign (k := ?_)
      refine sl_nil ?_
      refine sp_then ?_
      refine sw_region ?_
      refine r_move (k := ?_)
      refine r_move (k := ?_)
      refine r_move (k := ?_)
      refine r_idx_arr (k := ?_)
      refine r_load_fr1 (k := ?_)
    rotate_left 1
    focus
      refine r_assign (k := ?_)
      refine r_assign (k := ?_)
      refine sl_nil ?_
      refine sp_then ?_
      refine sw_region ?_
      refine r_move (k := ?_)
      refine r_move (k := ?_)
      refine r_move (k := ?_)
      refine r_idx_arr (k := ?_)
      refine r_load_fr1 (k := ?_)
    rotate_left 1
    focus
      refine r_assign (k := ?_)
      refine r_assign (k := ?_)
      refine sl_nil ?_
      refine sp_then ?_
      refine sw_region ?_
      refine r_move (k := ?_)
      refine r_move (k := ?_)
      refine r_move (k := ?_)
      refine r_idx_arr (k := ?_)
      refine r_load_fr1 (k := ?_)
    rotate_left 1
    focus
      refine r_assign (k := ?_)
      refine r_assign (k := ?_)
      refine sl_nil ?_
      refine sp_then ?_
      refine sw_region ?_
      refine r_move (k := ?_)
      refine r_move (k := ?_)
      refine r_move (k := ?_)
      refine r_idx_arr (k := ?_)
      refine r_load_fr1 (k := ?_)
    rotate_left 1
    · refine r_callB (c_put GW s' _ 1 (by decide) (by decide) (by omega)) (by exact rfl) (by exact rfl) (by exact rfl) (by simp) (by exact rfl) fun r hr hxr => ?_
      refine r_assign (k := ?_)
      refine sl_nil ?_
      refine sp_block ?_
      refine sp_then ?_
      refine sw_region ?_
      refine r_add64 (k := ?_)
      refine r_move (k := ?_)
      refine sl_nil ?_
      refine sp_loop (ι := { p : Nat × BS // p.1 ≤ 5 ∧ p.2.ok ∧ p.2.xs = s.xs ++ packed (x.nums.take p.1) }) ⟨(1, r), by simp, hr, by rw [hxr, hx]; simp [packed, PtrV.nums]⟩ ?_ ?_
      · dsimp only; omega
      · exact Ent.mk' (by repeat' (first | trivial | exact rfl | apply And.intro)) (by repeat' (first | trivial | exact .head _ | exact .tail _ (.head _) | exact .tail _ (.tail _ (.head _)) | exact .tail _ (.tail _ (.tail _ (.head _))) | exact .tail _ (.tail _ (.tail _ (.tail _ (.head _)))) | exact .tail _ (.tail _ (.tail _ (.tail _ (.tail _ (.head _))))) | exact .tail _ (.tail _ (.tail _ (.tail _ (.tail _ (.tail _ (.head _)))))) | exact .tail _ (.tail _ (.tail _ (.tail _ (.tail _ (.tail _ (.tail _ (.head _))))))) | exact .tail _ (.tail _ (.tail _ (.tail _ (.tail _ (.tail _ (.tail _ (.tail _ (.head _)))))))) | exact .tail _ (.tail _ (.tail _ (.tail _ (.tail _ (.tail _ (.tail _ (.tail _ (.tail _ (.head _))))))))) | exact .tail _ (.tail _ (.tail _ (.tail _ (.tail _ (.tail _ (.tail _ (.tail _ (.tail _ (.tail _ (.head _)))))))))) | exact .tail _ (.tail _ (.tail _ (.tail _ (.tail _ (.tail _ (.tail _ (.tail _ (.tail _ (.tail _ (.tail _ (.head _))))))))))) | apply And.intro))
    · refine r_callB (c_put GW s' _ 2 (by decide) (by decide) (by omega)) (by exact rfl) (by exact rfl) (by exact rfl) (by simp) (by exact rfl) fun r hr hxr => ?_
      refine r_assign (k := ?_)
      refine sl_nil ?_
      refine sp_block ?_
      refine sp_then ?_
      refine sw_region ?_
      refine r_add64 (k := ?_)
      refine r_move (k := ?_)
      refine sl_nil ?_
      refine sp_loop (ι := { p : Nat × BS // p.1 ≤ 5 ∧ p.2.ok ∧ p.2.xs = s.xs ++ packed (x.nums.take p.1) }) ⟨(2, r), by simp, hr, by rw [hxr, hx]; simp [packed, PtrV.nums]⟩ ?_ ?_
      · dsimp only; omega
      · exact Ent.mk' (by repeat' (first | trivial | exact rfl | apply And.intro)) (by repeat' (first | trivial | exact .head _ | exact .tail _ (.head _) | exact .tail _ (.tail _ (.head _)) | exact .tail _ (.tail _ (.tail _ (.head _))) | exact .tail _ (.tail _ (.tail _ (.tail _ (.head _)))) | exact .tail _ (.tail _ (.tail _ (.tail _ (.tail _ (.head _))))) | exact .tail _ (.tail _ (.tail _ (.tail _ (.tail _ (.tail _ (.head _)))))) | exact .tail _ (.tail _ (.tail _ (.tail _ (.tail _ (.tail _ (.tail _ (.head _))))))) | exact .tail _ (.tail _ (.tail _ (.tail _ (.tail _ (.tail _ (.tail _ (.tail _ (.head _)))))))) | exact .tail _ (.tail _ (.tail _ (.tail _ (.tail _ (.tail _ (.tail _ (.tail _ (.tail _ (.head _))))))))) | exact .tail _ (.tail _ (.tail _ (.tail _ (.tail _ (.tail _ (.tail _ (.tail _ (.tail _ (.tail _ (.head _)))))))))) | exact .tail _ (.tail _ (.tail _ (.tail _ (.tail _ (.tail _ (.tail _ (.tail _ (.tail _ (.tail _ (.tail _ (.head _))))))))))) | apply And.intro))
    · refine r_callB (c_put GW s' _ 2 (by decide) (by decide) (by omega)) (by exact rfl) (by exact rfl) (by exact rfl) (by simp) (by exact rfl) fun r hr hxr => ?_
      refine r_assign (k := ?_)
      refine sl_nil ?_
      refine sp_block ?_
      refine sp_then ?_
      refine sw_region ?_
      refine r_add64 (k := ?_)
      refine r_move (k := ?_)
      refine sl_nil ?_
      refine sp_loop (ι := { p : Nat × BS // p.1 ≤ 5 ∧ p.2.ok ∧ p.2.xs = s.xs ++ packed (x.nums.take p.1) }) ⟨(3, r), by simp, hr, by rw [hxr, hx]; simp [packed, PtrV.nums]⟩ ?_ ?_
      · dsimp only; omega
      · exact Ent.mk' (by repeat' (first | trivial | exact rfl | apply And.intro)) (by repeat' (first | trivial | exact .head _ | exact .tail _ (.head _) | exact .tail _ (.tail _ (.head _)) | exact .tail _ (.tail _ (.tail _ (.head _))) | exact .tail _ (.tail _ (.tail _ (.tail _ (.head _)))) | exact .tail _ (.tail _ (.tail _ (.tail _ (.tail _ (.head _))))) | exact .tail _ (.tail _ (.tail _ (.tail _ (.tail _ (.tail _ (.head _)))))) | exact .tail _ (.tail _ (.tail _ (.tail _ (.tail _ (.tail _ (.tail _ (.head _))))))) | exact .tail _ (.tail _ (.tail _ (.tail _ (.tail _ (.tail _ (.tail _ (.tail _ (.head _)))))))) | exact .tail _ (.tail _ (.tail _ (.tail _ (.tail _ (.tail _ (.tail _ (.tail _ (.tail _ (.head _))))))))) | exact .tail _ (.tail _ (.tail _ (.tail _ (.tail _ (.tail _ (.tail _ (.tail _ (.tail _ (.tail _ (.head _)))))))))) | exact .tail _ (.tail _ (.tail _ (.tail _ (.tail _ (.tail _ (.tail _ (.tail _ (.tail _ (.tail _ (.tail _ (.head _))))))))))) | apply And.intro))
    · refine r_callB (c_put GW s' _ 4 (by decide) (by decide) (by omega)) (by exact rfl) (by exact rfl) (by exact rfl) (by simp) (by exact rfl) fun r hr hxr => ?_
      refine r_assign (k := ?_)
      refine sl_nil ?_
      refine sp_block ?_
      refine sp_then ?_
      refine sw_region ?_
      refine r_add64 (k := ?_)
      refine r_move (k := ?_)
      refine sl_nil ?_
      refine sp_loop (ι := { p : Nat × BS // p.1 ≤ 5 ∧ p.2.ok ∧ p.2.xs = s.xs ++ packed (x.nums.take p.1) }) ⟨(4, r), by simp, hr, by rw [hxr, hx]; simp [packed, PtrV.nums]⟩ ?_ ?_
      · dsimp only; omega
      · exact Ent.mk' (by repeat' (first | trivial | exact rfl | apply And.intro)) (by repeat' (first | trivial | exact .head _ | exact .tail _ (.head _) | exact .tail _ (.tail _ (.head _)) | exact .tail _ (.tail _ (.tail _ (.head _))) | exact .tail _ (.tail _ (.tail _ (.tail _ (.head _)))) | exact .tail _ (.tail _ (.tail _ (.tail _ (.tail _ (.head _))))) | exact .tail _ (.tail _ (.tail _ (.tail _ (.tail _ (.tail _ (.head _)))))) | exact .tail _ (.tail _ (.tail _ (.tail _ (.tail _ (.tail _ (.tail _ (.head _))))))) | exact .tail _ (.tail _ (.tail _ (.tail _ (.tail _ (.tail _ (.tail _ (.tail _ (.head _)))))))) | exact .tail _ (.tail _ (.tail _ (.tail _ (.tail _ (.tail _ (.tail _ (.tail _ (.tail _ (.head _))))))))) | exact .tail _ (.tail _ (.tail _ (.tail _ (.tail _ (.tail _ (.tail _ (.tail _ (.tail _ (.tail _ (.head _)))))))))) | exact .tail _ (.tail _ (.tail _ (.tail _ (.tail _ (.tail _ (.tail _ (.tail _ (.tail _ (.tail _ (.tail _ (.head _))))))))))) | apply And.intro))
    · refine r_callB (c_put GW s' _ 8 (by decide) (by decide) (by omega)) (by exact rfl) (by exact rfl) (by exact rfl) (by simp) (by exact rfl) fun r hr hxr => ?_
      refine r_assign (k := ?_)
      refine sl_nil ?_
      refine sp_block ?_
      refine sp_then ?_
      refine sw_region ?_
      refine r_add64 (k := ?_)
      refine r_move (k := ?_)
      refine sl_nil ?_
      refine sp_loop (ι := { p : Nat × BS // p.1 ≤ 5 ∧ p.2.ok ∧ p.2.xs = s.xs ++ packed (x.nums.take p.1) }) ⟨(5, r), by simp, hr, by rw [hxr, hx]; simp [packed, PtrV.nums]⟩ ?_ ?_
      · dsimp only; omega
      · exact Ent.mk' (by repeat' (first | trivial | exact rfl | apply And.intro)) (by repeat' (first | trivial | exact .head _ | exact .tail _ (.head _) | exact .tail _ (.tail _ (.head _)) | exact .tail _ (.tail _ (.tail _ (.head _))) | exact .tail _ (.tail _ (.tail _ (.tail _ (.head _)))) | exact .tail _ (.tail _ (.tail _ (.tail _ (.tail _ (.head _))))) | exact .tail _ (.tail _ (.tail _ (.tail _ (.tail _ (.tail _ (.head _)))))) | exact .tail _ (.tail _ (.tail _ (.tail _ (.tail _ (.tail _ (.tail _ (.head _))))))) | exact .tail _ (.tail _ (.tail _ (.tail _ (.tail _ (.tail _ (.tail _ (.tail _ (.head _)))))))) | exact .tail _ (.tail _ (.tail _ (.tail _ (.tail _ (.tail _ (.tail _ (.tail _ (.tail _ (.head _))))))))) | exact .tail _ (.tail _ (.tail _ (.tail _ (.tail _ (.tail _ (.tail _ (.tail _ (.tail _ (.tail _ (.head _)))))))))) | exact .tail _ (.tail _ (.tail _ (.tail _ (.tail _ (.tail _ (.tail _ (.tail _ (.tail _ (.tail _ (.tail _ (.head _))))))))))) | apply And.intro))
  · have h := of_decide_eq_false h
    obtain rfl : i = 5 := by omega
    refine sw_exit ?_
    refine sp_then_exit ?_
    refine sp_loop_exit ?_
    refine sp_block_exit ?_
    refine sp_then ?_
    refine sw_seq ?_
    refine sw_region ?_
    refine r_move (k := ?_)
    refine r_assign (k := ?_)
    refine sl_nil ?_
    refine sp_then ?_
    refine sw_ret ?_
    refine sp_retv rfl rfl (.tmp rfl) rfl rfl ⟨rfl, s', rfl, hok', hx, rfl⟩ (by simp) rfl (by simp)

/-- The numbers of a pointer's bytes. -/
def pvals (xs : List UInt8) : List UInt64 := [unle (xs.take 1), unle ((xs.drop 1).take 2), unle ((xs.drop 3).take 2), unle ((xs.drop 5).take 4), unle ((xs.drop 9).take 8)]
def pcells (xs : List UInt8) (i : Nat) : List Value := ((pvals xs).take i ++ List.replicate (5 - i) 0).map v64
def poff : Nat → Nat
  | 0 => 0 | 1 => 1 | 2 => 3 | 3 => 5 | 4 => 9 | _ => 17
def ptake (xs : List UInt8) : PtrV := ⟨(unle (xs.take 1)).toUInt8, (unle ((xs.drop 1).take 2)).toUInt16, (unle ((xs.drop 3).take 2)).toUInt16, (unle ((xs.drop 5).take 4)).toUInt32, unle ((xs.drop 9).take 8)⟩

theorem c_ptake (s : BS) (hok : s.ok) (hl : 17 ≤ s.xs.length) : Ctr Tryd.prog GW 54 [s.v] [] [s.res] (retF fun v Φ' => ∃ r : BS, v = .tuple #[(ptake s.xs).v, r.v, vi 0] ∧ r.ok ∧ r.xs = s.xs.drop 17 ∧ Φ' = [r.res]) := by
  refine Ctr.intro Tryd.func54 (by kernel_rfl) rfl Tryd.ntmps54 rfl rfl rfl fun w X => ?_
  refine w_g ?_
  refine sw_seq ?_
  refine sw_region ?_
  refine r_alloc (by exact z27) (by exact rfl) (by exact rfl) fun b2 => ?_
  refine r_assign (k := ?_)
  refine r_assign (k := ?_)
  refine sl_nil ?_
  refine sp_then ?_
  refine sw_seq ?_
  refine sw_seq ?_
  refine sw_region ?_
  refine r_move (k := ?_)
  refine r_len (k := ?_)
  refine r_lss (k := ?_)
  refine sl_nil ?_
  refine sp_then ?_
  refine sw_cond rfl (fun h => ?_) (fun h => ?_)
  · have h := of_decide_eq_true h
    exact absurd h (by omega)
  refine sw_skip ?_
  refine sp_then ?_
  refine sw_seq ?_
  refine sw_region ?_
  refine r_alloc (by exact z121) (by exact rfl) (by exact rfl) fun b5 => ?_
  refine sl_nil ?_
  refine sp_then ?_
  refine sw_seq ?_
  refine sw_region ?_
  refine r_move (k := ?_)
  refine r_assign (k := ?_)
  refine sl_nil ?_
  refine sp_then ?_
  refine sw_seq ?_
  refine sw_seq ?_
  refine sw_region ?_
  refine r_load_fr (k := ?_)
  refine r_move (k := ?_)
  refine sl_nil ?_
  refine sp_then ?_
  refine sw_block ?_
  refine sw_loop (ι := { p : Nat × BS // p.1 ≤ 5 ∧ p.2.ok ∧ p.2.xs = s.xs.drop (poff p.1) })
    (fun p => [(2, .pointer (some ⟨b2, 0, none⟩)), (3, p.1.2.v), (5, .pointer (some ⟨b5, 0, none⟩)), (14, .agg #[vi 1, vi 2, vi 2, vi 4, vi 8]), (15, vi (p.1.1 : Int))]) (fun p => [.box b5 (pcells s.xs p.1.1) 121, .box b2 PtrV.none.cs 27]) (fun p => [p.1.2.res, GW]) (fun _ => []) (fun p => 5 - p.1.1) ⟨(0, s), by simp, hok, by simp [poff]⟩ ?_ fun i => ?_
  · exact Ent.mk' (by repeat' (first | trivial | exact rfl | apply And.intro)) (by repeat' (first | trivial | exact .head _ | exact .tail _ (.head _) | exact .tail _ (.tail _ (.head _)) | exact .tail _ (.tail _ (.tail _ (.head _))) | exact .tail _ (.tail _ (.tail _ (.tail _ (.head _)))) | exact .tail _ (.tail _ (.tail _ (.tail _ (.tail _ (.head _))))) | exact .tail _ (.tail _ (.tail _ (.tail _ (.tail _ (.tail _ (.head _)))))) | exact .tail _ (.tail _ (.tail _ (.tail _ (.tail _ (.tail _ (.tail _ (.head _))))))) | exact .tail _ (.tail _ (.tail _ (.tail _ (.tail _ (.tail _ (.tail _ (.tail _ (.head _)))))))) | exact .tail _ (.tail _ (.tail _ (.tail _ (.tail _ (.tail _ (.tail _ (.tail _ (.tail _ (.head _))))))))) | exact .tail _ (.tail _ (.tail _ (.tail _ (.tail _ (.tail _ (.tail _ (.tail _ (.tail _ (.tail _ (.head _)))))))))) | exact .tail _ (.tail _ (.tail _ (.tail _ (.tail _ (.tail _ (.tail _ (.tail _ (.tail _ (.tail _ (.tail _ (.head _))))))))))) | apply And.intro))
  obtain ⟨⟨i, s'⟩, hi, hok', hx⟩ := i
  dsimp only at hi hok' hx ⊢
  have hsl : s'.xs.length = s.xs.length - poff i := by rw [hx]; simp
  refine sw_seq ?_
  refine sw_region ?_
  refine r_lss (k := ?_)
  refine sl_nil ?_
  refine sp_then ?_
  refine sw_seq ?_
  refine sw_cond rfl (fun h => ?_) (fun h => ?_)
  · have h := of_decide_eq_true h
    have hc : i = 0 ∨ i = 1 ∨ i = 2 ∨ i = 3 ∨ i = 4 := by omega
    refine sw_skip ?_
    refine sp_then ?_
    refine sw_seq ?_
    refine sw_block ?_
    refine sw_seq ?_
    refine sw_region ?_
    refine r_move (k := ?_)
    rcases hc with rfl | rfl | rfl | rfl | rfl
    all_goals simp only [poff] at hsl hx
    all_goals refine r_index (by exact ta rfl) (by exact tz rfl) (by exact rfl) (by exact rfl) (by omega) (by omega) (by exact Int.toNat_natCast _) (by exact rfl) (by exact rfl) ?_
    focus
      refine r_assign (k := ?_)
      refine r_assign (k := ?_)
      refine sl_nil ?_
      refine sp_then ?_
      refine sw_region ?_
      refine r_move (k := ?_)
      refine r_move (k := ?_)
      refine r_move (k := ?_)
    rotate_left 1
    focus
      refine r_assign (k := ?_)
      refine r_assign (k := ?_)
      refine sl_nil ?_
      refine sp_then ?_
      refine sw_region ?_
      refine r_move (k := ?_)
      refine r_move (k := ?_)
      refine r_move (k := ?_)
    rotate_left 1
    focus
      refine r_assign (k := ?_)
      refine r_assign (k := ?_)
      refine sl_nil ?_
      refine sp_then ?_
      refine sw_region ?_
      refine r_move (k := ?_)
      refine r_move (k := ?_)
      refine r_move (k := ?_)
    rotate_left 1
    focus
      refine r_assign (k := ?_)
      refine r_assign (k := ?_)
      refine sl_nil ?_
      refine sp_then ?_
      refine sw_region ?_
      refine r_move (k := ?_)
      refine r_move (k := ?_)
      refine r_move (k := ?_)
    rotate_left 1
    focus
      refine r_assign (k := ?_)
      refine r_assign (k := ?_)
      refine sl_nil ?_
      refine sp_then ?_
      refine sw_region ?_
      refine r_move (k := ?_)
      refine r_move (k := ?_)
      refine r_move (k := ?_)
    rotate_left 1
    · refine r_callF (c_take GW s' hok' 1 (by decide) (by decide) (by omega)) (by exact rfl) (by exact rfl) (by exact rfl) (by simp) (by exact rfl) ?_
      rintro _ _ ⟨r, rfl, hr, hxr, rfl⟩
      refine r_move (k := ?_)
      refine r_ext (k := ?_)
      refine r_ext (k := ?_)
      refine r_ext (k := ?_)
      refine r_idx_arr (k := ?_)
      refine r_store1 (k := ?_)
      refine r_assign (k := ?_)
      refine sl_nil ?_
      refine sp_block ?_
      refine sp_then ?_
      refine sw_region ?_
      refine r_add64 (k := ?_)
      refine r_move (k := ?_)
      refine sl_nil ?_
      refine sp_eqB (B' := [.box b5 (pcells s.xs 1) 121, .box b2 PtrV.none.cs 27]) (by rw [hx]; rfl) ?_
      refine sp_loop (ι := { p : Nat × BS // p.1 ≤ 5 ∧ p.2.ok ∧ p.2.xs = s.xs.drop (poff p.1) }) ⟨(1, r), by simp, hr, by rw [hxr, hx]; simp [poff]⟩ ?_ ?_
      · dsimp only; omega
      · exact Ent.mk' (by repeat' (first | trivial | exact rfl | apply And.intro)) (by repeat' (first | trivial | exact .head _ | exact .tail _ (.head _) | exact .tail _ (.tail _ (.head _)) | exact .tail _ (.tail _ (.tail _ (.head _))) | exact .tail _ (.tail _ (.tail _ (.tail _ (.head _)))) | exact .tail _ (.tail _ (.tail _ (.tail _ (.tail _ (.head _))))) | exact .tail _ (.tail _ (.tail _ (.tail _ (.tail _ (.tail _ (.head _)))))) | exact .tail _ (.tail _ (.tail _ (.tail _ (.tail _ (.tail _ (.tail _ (.head _))))))) | exact .tail _ (.tail _ (.tail _ (.tail _ (.tail _ (.tail _ (.tail _ (.tail _ (.head _)))))))) | exact .tail _ (.tail _ (.tail _ (.tail _ (.tail _ (.tail _ (.tail _ (.tail _ (.tail _ (.head _))))))))) | exact .tail _ (.tail _ (.tail _ (.tail _ (.tail _ (.tail _ (.tail _ (.tail _ (.tail _ (.tail _ (.head _)))))))))) | exact .tail _ (.tail _ (.tail _ (.tail _ (.tail _ (.tail _ (.tail _ (.tail _ (.tail _ (.tail _ (.tail _ (.head _))))))))))) | apply And.intro))
    · refine r_callF (c_take GW s' hok' 2 (by decide) (by decide) (by omega)) (by exact rfl) (by exact rfl) (by exact rfl) (by simp) (by exact rfl) ?_
      rintro _ _ ⟨r, rfl, hr, hxr, rfl⟩
      refine r_move (k := ?_)
      refine r_ext (k := ?_)
      refine r_ext (k := ?_)
      refine r_ext (k := ?_)
      refine r_idx_arr (k := ?_)
      refine r_store1 (k := ?_)
      refine r_assign (k := ?_)
      refine sl_nil ?_
      refine sp_block ?_
      refine sp_then ?_
      refine sw_region ?_
      refine r_add64 (k := ?_)
      refine r_move (k := ?_)
      refine sl_nil ?_
      refine sp_eqB (B' := [.box b5 (pcells s.xs 2) 121, .box b2 PtrV.none.cs 27]) (by rw [hx]; rfl) ?_
      refine sp_loop (ι := { p : Nat × BS // p.1 ≤ 5 ∧ p.2.ok ∧ p.2.xs = s.xs.drop (poff p.1) }) ⟨(2, r), by simp, hr, by rw [hxr, hx]; simp [poff]⟩ ?_ ?_
      · dsimp only; omega
      · exact Ent.mk' (by repeat' (first | trivial | exact rfl | apply And.intro)) (by repeat' (first | trivial | exact .head _ | exact .tail _ (.head _) | exact .tail _ (.tail _ (.head _)) | exact .tail _ (.tail _ (.tail _ (.head _))) | exact .tail _ (.tail _ (.tail _ (.tail _ (.head _)))) | exact .tail _ (.tail _ (.tail _ (.tail _ (.tail _ (.head _))))) | exact .tail _ (.tail _ (.tail _ (.tail _ (.tail _ (.tail _ (.head _)))))) | exact .tail _ (.tail _ (.tail _ (.tail _ (.tail _ (.tail _ (.tail _ (.head _))))))) | exact .tail _ (.tail _ (.tail _ (.tail _ (.tail _ (.tail _ (.tail _ (.tail _ (.head _)))))))) | exact .tail _ (.tail _ (.tail _ (.tail _ (.tail _ (.tail _ (.tail _ (.tail _ (.tail _ (.head _))))))))) | exact .tail _ (.tail _ (.tail _ (.tail _ (.tail _ (.tail _ (.tail _ (.tail _ (.tail _ (.tail _ (.head _)))))))))) | exact .tail _ (.tail _ (.tail _ (.tail _ (.tail _ (.tail _ (.tail _ (.tail _ (.tail _ (.tail _ (.tail _ (.head _))))))))))) | apply And.intro))
    · refine r_callF (c_take GW s' hok' 2 (by decide) (by decide) (by omega)) (by exact rfl) (by exact rfl) (by exact rfl) (by simp) (by exact rfl) ?_
      rintro _ _ ⟨r, rfl, hr, hxr, rfl⟩
      refine r_move (k := ?_)
      refine r_ext (k := ?_)
      refine r_ext (k := ?_)
      refine r_ext (k := ?_)
      refine r_idx_arr (k := ?_)
      refine r_store1 (k := ?_)
      refine r_assign (k := ?_)
      refine sl_nil ?_
      refine sp_block ?_
      refine sp_then ?_
      refine sw_region ?_
      refine r_add64 (k := ?_)
      refine r_move (k := ?_)
      refine sl_nil ?_
      refine sp_eqB (B' := [.box b5 (pcells s.xs 3) 121, .box b2 PtrV.none.cs 27]) (by rw [hx]; rfl) ?_
      refine sp_loop (ι := { p : Nat × BS // p.1 ≤ 5 ∧ p.2.ok ∧ p.2.xs = s.xs.drop (poff p.1) }) ⟨(3, r), by simp, hr, by rw [hxr, hx]; simp [poff]⟩ ?_ ?_
      · dsimp only; omega
      · exact Ent.mk' (by repeat' (first | trivial | exact rfl | apply And.intro)) (by repeat' (first | trivial | exact .head _ | exact .tail _ (.head _) | exact .tail _ (.tail _ (.head _)) | exact .tail _ (.tail _ (.tail _ (.head _))) | exact .tail _ (.tail _ (.tail _ (.tail _ (.head _)))) | exact .tail _ (.tail _ (.tail _ (.tail _ (.tail _ (.head _))))) | exact .tail _ (.tail _ (.tail _ (.tail _ (.tail _ (.tail _ (.head _)))))) | exact .tail _ (.tail _ (.tail _ (.tail _ (.tail _ (.tail _ (.tail _ (.head _))))))) | exact .tail _ (.tail _ (.tail _ (.tail _ (.tail _ (.tail _ (.tail _ (.tail _ (.head _)))))))) | exact .tail _ (.tail _ (.tail _ (.tail _ (.tail _ (.tail _ (.tail _ (.tail _ (.tail _ (.head _))))))))) | exact .tail _ (.tail _ (.tail _ (.tail _ (.tail _ (.tail _ (.tail _ (.tail _ (.tail _ (.tail _ (.head _)))))))))) | exact .tail _ (.tail _ (.tail _ (.tail _ (.tail _ (.tail _ (.tail _ (.tail _ (.tail _ (.tail _ (.tail _ (.head _))))))))))) | apply And.intro))
    · refine r_callF (c_take GW s' hok' 4 (by decide) (by decide) (by omega)) (by exact rfl) (by exact rfl) (by exact rfl) (by simp) (by exact rfl) ?_
      rintro _ _ ⟨r, rfl, hr, hxr, rfl⟩
      refine r_move (k := ?_)
      refine r_ext (k := ?_)
      refine r_ext (k := ?_)
      refine r_ext (k := ?_)
      refine r_idx_arr (k := ?_)
      refine r_store1 (k := ?_)
      refine r_assign (k := ?_)
      refine sl_nil ?_
      refine sp_block ?_
      refine sp_then ?_
      refine sw_region ?_
      refine r_add64 (k := ?_)
      refine r_move (k := ?_)
      refine sl_nil ?_
      refine sp_eqB (B' := [.box b5 (pcells s.xs 4) 121, .box b2 PtrV.none.cs 27]) (by rw [hx]; rfl) ?_
      refine sp_loop (ι := { p : Nat × BS // p.1 ≤ 5 ∧ p.2.ok ∧ p.2.xs = s.xs.drop (poff p.1) }) ⟨(4, r), by simp, hr, by rw [hxr, hx]; simp [poff]⟩ ?_ ?_
      · dsimp only; omega
      · exact Ent.mk' (by repeat' (first | trivial | exact rfl | apply And.intro)) (by repeat' (first | trivial | exact .head _ | exact .tail _ (.head _) | exact .tail _ (.tail _ (.head _)) | exact .tail _ (.tail _ (.tail _ (.head _))) | exact .tail _ (.tail _ (.tail _ (.tail _ (.head _)))) | exact .tail _ (.tail _ (.tail _ (.tail _ (.tail _ (.head _))))) | exact .tail _ (.tail _ (.tail _ (.tail _ (.tail _ (.tail _ (.head _)))))) | exact .tail _ (.tail _ (.tail _ (.tail _ (.tail _ (.tail _ (.tail _ (.head _))))))) | exact .tail _ (.tail _ (.tail _ (.tail _ (.tail _ (.tail _ (.tail _ (.tail _ (.head _)))))))) | exact .tail _ (.tail _ (.tail _ (.tail _ (.tail _ (.tail _ (.tail _ (.tail _ (.tail _ (.head _))))))))) | exact .tail _ (.tail _ (.tail _ (.tail _ (.tail _ (.tail _ (.tail _ (.tail _ (.tail _ (.tail _ (.head _)))))))))) | exact .tail _ (.tail _ (.tail _ (.tail _ (.tail _ (.tail _ (.tail _ (.tail _ (.tail _ (.tail _ (.tail _ (.head _))))))))))) | apply And.intro))
    · refine r_callF (c_take GW s' hok' 8 (by decide) (by decide) (by omega)) (by exact rfl) (by exact rfl) (by exact rfl) (by simp) (by exact rfl) ?_
      rintro _ _ ⟨r, rfl, hr, hxr, rfl⟩
      refine r_move (k := ?_)
      refine r_ext (k := ?_)
      refine r_ext (k := ?_)
      refine r_ext (k := ?_)
      refine r_idx_arr (k := ?_)
      refine r_store1 (k := ?_)
      refine r_assign (k := ?_)
      refine sl_nil ?_
      refine sp_block ?_
      refine sp_then ?_
      refine sw_region ?_
      refine r_add64 (k := ?_)
      refine r_move (k := ?_)
      refine sl_nil ?_
      refine sp_eqB (B' := [.box b5 (pcells s.xs 5) 121, .box b2 PtrV.none.cs 27]) (by rw [hx]; rfl) ?_
      refine sp_loop (ι := { p : Nat × BS // p.1 ≤ 5 ∧ p.2.ok ∧ p.2.xs = s.xs.drop (poff p.1) }) ⟨(5, r), by simp, hr, by rw [hxr, hx]; simp [poff]⟩ ?_ ?_
      · dsimp only; omega
      · exact Ent.mk' (by repeat' (first | trivial | exact rfl | apply And.intro)) (by repeat' (first | trivial | exact .head _ | exact .tail _ (.head _) | exact .tail _ (.tail _ (.head _)) | exact .tail _ (.tail _ (.tail _ (.head _))) | exact .tail _ (.tail _ (.tail _ (.tail _ (.head _)))) | exact .tail _ (.tail _ (.tail _ (.tail _ (.tail _ (.head _))))) | exact .tail _ (.tail _ (.tail _ (.tail _ (.tail _ (.tail _ (.head _)))))) | exact .tail _ (.tail _ (.tail _ (.tail _ (.tail _ (.tail _ (.tail _ (.head _))))))) | exact .tail _ (.tail _ (.tail _ (.tail _ (.tail _ (.tail _ (.tail _ (.tail _ (.head _)))))))) | exact .tail _ (.tail _ (.tail _ (.tail _ (.tail _ (.tail _ (.tail _ (.tail _ (.tail _ (.head _))))))))) | exact .tail _ (.tail _ (.tail _ (.tail _ (.tail _ (.tail _ (.tail _ (.tail _ (.tail _ (.tail _ (.head _)))))))))) | exact .tail _ (.tail _ (.tail _ (.tail _ (.tail _ (.tail _ (.tail _ (.tail _ (.tail _ (.tail _ (.tail _ (.head _))))))))))) | apply And.intro))
  · have h := of_decide_eq_false h
    obtain rfl : i = 5 := by omega
    refine sw_exit ?_
    refine sp_then_exit ?_
    refine sp_loop_exit ?_
    refine sp_block_exit ?_
    refine sp_then ?_
    refine sw_seq ?_
    refine sw_region ?_
    refine r_idx_arr (k := ?_)
    refine r_load_one (k := ?_)
    refine r_cv_64_8 (k := ?_)
    refine r_idx_arr (k := ?_)
    refine r_load_one (k := ?_)
    refine r_cv_64_16 (k := ?_)
    refine r_idx_arr (k := ?_)
    refine r_load_one (k := ?_)
    refine r_cv_64_16 (k := ?_)
    refine r_buildP [v16 (ptake s.xs).a0, v16 (ptake s.xs).a1] (parts := [(0, .tmp 34), (1, .tmp 37)]) (by exact rfl) (by kernel_rfl) (by exact rfl) ?_
    refine r_idx_arr (k := ?_)
    refine r_load_one (k := ?_)
    refine r_cv_64_32 (k := ?_)
    refine r_idx_arr (k := ?_)
    refine r_load_one (k := ?_)
    refine r_buildP (ptake s.xs).cs (parts := [(0, .tmp 31), (1, .tmp 38), (2, .tmp 41), (3, .tmp 43)]) (by exact rfl) (by kernel_rfl) (by exact rfl) ?_
    refine r_move (k := ?_)
    refine r_store_all (k := ?_)
    refine r_assign (k := ?_)
    refine r_assign (k := ?_)
    refine sl_nil ?_
    refine sp_then ?_
    refine sw_ret ?_
    refine sp_ret3 rfl rfl (.agg rfl (tz rfl) rfl (.tail _ (.head _))) (.tmp rfl) (.tmp rfl) rfl rfl ⟨rfl, s', rfl, hok', hx, rfl⟩ (by simp) rfl (by simp)
end Go.Proofs.YtjahiohlekdhoaaDoor

namespace Go.Proofs.YtjahiohlekdhoaaDoor
open Go
set_option maxHeartbeats 4000000
set_option maxRecDepth 4000
attribute [local irreducible] SW SL SP RA Then FQ IQ LoopQ RQ AQ NX CutQ Exit.noGoto

def rk (c : UInt64) : UInt64 := (c >>> UInt64.ofNat 1) ^^^ (14514072000185962306 * (c &&& 1))
def rkN : Nat → UInt64 → UInt64
  | 0, c => c
  | n + 1, c => rk (rkN n c)
def reckon (b : UInt8) : UInt64 := rkN 8 b.toUInt64

theorem c_reckon (G : Res) (b : UInt8) : Ctr Tryd.prog G 111 [v8 b] [] [] (ret1 (v64 (reckon b))) := by
  refine Ctr.intro Tryd.func111 (by kernel_rfl) rfl Tryd.ntmps111 rfl rfl rfl fun w X => ?_
  refine sw_seq ?_
  refine sw_region ?_
  refine r_assign (k := ?_)
  refine sl_nil ?_
  refine sp_then ?_
  refine sw_seq ?_
  refine sw_region ?_
  refine r_move (k := ?_)
  refine r_cv_8_64 (k := ?_)
  refine r_assign (k := ?_)
  refine sl_nil ?_
  refine sp_then ?_
  refine sw_seq ?_
  refine sw_seq ?_
  refine sw_region ?_
  refine r_move (k := ?_)
  refine sl_nil ?_
  refine sp_then ?_
  refine sw_block ?_
  refine sw_loop (ι := { i : Nat // i ≤ 8 }) (fun i => [(3, v64 (rkN i.1 b.toUInt64)), (6, vi (i.1 : Int))]) (fun _ => []) (fun _ => []) (fun _ => []) (fun i => 8 - i.1) ⟨0, by omega⟩ ?_ fun i => ?_
  · exact Ent.mk' (by repeat' (first | trivial | exact rfl | apply And.intro)) (by repeat' (first | trivial | exact .head _ | exact .tail _ (.head _) | exact .tail _ (.tail _ (.head _)) | exact .tail _ (.tail _ (.tail _ (.head _))) | exact .tail _ (.tail _ (.tail _ (.tail _ (.head _)))) | exact .tail _ (.tail _ (.tail _ (.tail _ (.tail _ (.head _))))) | exact .tail _ (.tail _ (.tail _ (.tail _ (.tail _ (.tail _ (.head _)))))) | exact .tail _ (.tail _ (.tail _ (.tail _ (.tail _ (.tail _ (.tail _ (.head _))))))) | exact .tail _ (.tail _ (.tail _ (.tail _ (.tail _ (.tail _ (.tail _ (.tail _ (.head _)))))))) | exact .tail _ (.tail _ (.tail _ (.tail _ (.tail _ (.tail _ (.tail _ (.tail _ (.tail _ (.head _))))))))) | exact .tail _ (.tail _ (.tail _ (.tail _ (.tail _ (.tail _ (.tail _ (.tail _ (.tail _ (.tail _ (.head _)))))))))) | exact .tail _ (.tail _ (.tail _ (.tail _ (.tail _ (.tail _ (.tail _ (.tail _ (.tail _ (.tail _ (.tail _ (.head _))))))))))) | apply And.intro))
  obtain ⟨i, hi⟩ := i
  dsimp only
  refine sw_seq ?_
  refine sw_region ?_
  refine r_lss (k := ?_)
  refine sl_nil ?_
  refine sp_then ?_
  refine sw_seq ?_
  refine sw_cond rfl (fun h => ?_) (fun h => ?_)
  · have h := of_decide_eq_true h
    refine sw_skip ?_
    refine sp_then ?_
    refine sw_seq ?_
    refine sw_block ?_
    refine sw_region ?_
    refine r_move (k := ?_)
    refine r_shr64 (k := ?_)
    refine r_move (k := ?_)
    refine r_and64c (k := ?_)
    refine r_mul64c (k := ?_)
    refine r_xor64 (k := ?_)
    refine r_assign (k := ?_)
    refine sl_nil ?_
    refine sp_block ?_
    refine sp_then ?_
    refine sw_region ?_
    refine r_add64 (k := ?_)
    refine r_move (k := ?_)
    refine sl_nil ?_
    refine sp_loop (ι := { i : Nat // i ≤ 8 }) ⟨i + 1, by omega⟩ ?_ ?_
    · dsimp only; omega
    · exact Ent.mk' (by repeat' (first | trivial | exact rfl | apply And.intro)) (by repeat' (first | trivial | exact .head _ | exact .tail _ (.head _) | exact .tail _ (.tail _ (.head _)) | exact .tail _ (.tail _ (.tail _ (.head _))) | exact .tail _ (.tail _ (.tail _ (.tail _ (.head _)))) | exact .tail _ (.tail _ (.tail _ (.tail _ (.tail _ (.head _))))) | exact .tail _ (.tail _ (.tail _ (.tail _ (.tail _ (.tail _ (.head _)))))) | exact .tail _ (.tail _ (.tail _ (.tail _ (.tail _ (.tail _ (.tail _ (.head _))))))) | exact .tail _ (.tail _ (.tail _ (.tail _ (.tail _ (.tail _ (.tail _ (.tail _ (.head _)))))))) | exact .tail _ (.tail _ (.tail _ (.tail _ (.tail _ (.tail _ (.tail _ (.tail _ (.tail _ (.head _))))))))) | exact .tail _ (.tail _ (.tail _ (.tail _ (.tail _ (.tail _ (.tail _ (.tail _ (.tail _ (.tail _ (.head _)))))))))) | exact .tail _ (.tail _ (.tail _ (.tail _ (.tail _ (.tail _ (.tail _ (.tail _ (.tail _ (.tail _ (.tail _ (.head _))))))))))) | apply And.intro))
  · have h := of_decide_eq_false h
    obtain rfl : i = 8 := by omega
    refine sw_exit ?_
    refine sp_then_exit ?_
    refine sp_loop_exit ?_
    refine sp_block_exit ?_
    refine sp_then ?_
    refine sw_seq ?_
    refine sw_region ?_
    refine r_move (k := ?_)
    refine r_assign (k := ?_)
    refine sl_nil ?_
    refine sp_then ?_
    refine sw_ret ?_
    refine sp_retv rfl rfl (.tmp rfl) rfl rfl ⟨rfl, rfl, rfl⟩ (by simp) rfl (by simp)

theorem c_step (G : Res) (x : UInt64) (b : UInt8) : Ctr Tryd.prog G 87 [v64 x, v8 b] [] [] (ret1 (v64 (reckon (x.toUInt8 ^^^ b) ^^^ (x >>> 8)))) := by
  refine Ctr.intro Tryd.func87 (by kernel_rfl) rfl Tryd.ntmps87 rfl rfl rfl fun w X => ?_
  refine sw_seq ?_
  refine sw_region ?_
  refine r_assign (k := ?_)
  refine sl_nil ?_
  refine sp_then ?_
  refine sw_seq ?_
  refine sw_region ?_
  refine r_move (k := ?_)
  refine r_cv_64_8 (k := ?_)
  refine r_move (k := ?_)
  refine r_xor8 (k := ?_)
  refine r_call1 (c_reckon _ _) rfl rfl rfl (by simp) rfl ?_
  refine r_move (k := ?_)
  refine r_shr64 (k := ?_)
  refine r_xor64 (k := ?_)
  refine r_assign (k := ?_)
  refine sl_nil ?_
  refine sp_then ?_
  refine sw_ret ?_
  refine sp_retv rfl rfl (.tmp rfl) rfl rfl ⟨rfl, rfl, rfl⟩ (by simp) rfl (by simp)

/-! ### bytes -/
def partsV (ps : List BS) : List Value := ps.map BS.v
def flat (ps : List BS) : List UInt8 := ps.flatMap BS.xs
theorem flat_drop (ps : List BS) (i : Nat) (h : i < ps.length) : flat (ps.drop i) = ps[i].xs ++ flat (ps.drop (i + 1)) := by
  rw [drop_cons ps i h]; rfl

theorem i_bytes (G : Res) (b : Nat) (ba : Option Addr) (cap : Nat) (ps : List BS) (hok : ∀ p ∈ ps, p.ok) (hn : ps.length ≤ maxLen) : ICtr Tryd.prog G 110 [.pointer (some ⟨b, 0, none⟩)] [] [Res.mem (some ⟨b, 0, none⟩) [.slice ba ps.length cap], Res.mem ba (partsV ps), Res.all ps BS.res] bElt (flat ps) := by
  have hn' : ps.length ≤ 9223372036854775807 := hn
  refine ICtr.intro Tryd.func110 (by kernel_rfl) rfl Tryd.ntmps110 rfl rfl (fun _ => rfl) fun σ J Y go A l s0 w X M hgo hA hY => ?_
  refine sw_seq ?_
  refine sw_region ?_
  refine r_load_fr1 (k := ?_)
  refine r_len (k := ?_)
  refine r_move (k := ?_)
  refine sl_nil ?_
  refine sp_then ?_
  refine sw_block ?_
  refine sw_loop (ι := { p : Nat × σ // p.1 ≤ ps.length ∧ At Y go A s0 (flat ps) p.2 (flat (ps.drop p.1)) })
    (fun p => [(0, yv l), (7, .slice ba ps.length cap), (8, vi (ps.length : Int)), (9, vi (p.1.1 : Int))]) (fun _ => []) (fun _ => [Res.mem ba (partsV ps), Res.all ps BS.res]) (fun p => [J p.1.2]) (fun p => ps.length - p.1.1) ⟨(0, s0), by simp, .start hgo hA⟩ ?_ fun i => ?_
  · exact Ent.mk' (by repeat' (first | trivial | exact rfl | apply And.intro)) (by repeat' (first | trivial | exact .head _ | exact .tail _ (.head _) | exact .tail _ (.tail _ (.head _)) | exact .tail _ (.tail _ (.tail _ (.head _))) | exact .tail _ (.tail _ (.tail _ (.tail _ (.head _)))) | exact .tail _ (.tail _ (.tail _ (.tail _ (.tail _ (.head _))))) | exact .tail _ (.tail _ (.tail _ (.tail _ (.tail _ (.tail _ (.head _)))))) | exact .tail _ (.tail _ (.tail _ (.tail _ (.tail _ (.tail _ (.tail _ (.head _))))))) | exact .tail _ (.tail _ (.tail _ (.tail _ (.tail _ (.tail _ (.tail _ (.tail _ (.head _)))))))) | exact .tail _ (.tail _ (.tail _ (.tail _ (.tail _ (.tail _ (.tail _ (.tail _ (.tail _ (.head _))))))))) | exact .tail _ (.tail _ (.tail _ (.tail _ (.tail _ (.tail _ (.tail _ (.tail _ (.tail _ (.tail _ (.head _)))))))))) | exact .tail _ (.tail _ (.tail _ (.tail _ (.tail _ (.tail _ (.tail _ (.tail _ (.tail _ (.tail _ (.tail _ (.head _))))))))))) | apply And.intro))
  obtain ⟨⟨i, s⟩, hi, hr⟩ := i
  dsimp only at hi hr ⊢
  refine sw_seq ?_
  refine sw_region ?_
  refine r_lss (k := ?_)
  refine sl_nil ?_
  refine sp_then ?_
  refine sw_seq ?_
  refine sw_cond rfl (fun h => ?_) (fun h => ?_)
  · have h := of_decide_eq_true h
    have hi' : i < ps.length := by omega
    have hk := (hok _ (List.getElem_mem hi'))
    have hkl : ps[i].xs.length ≤ 9223372036854775807 := Nat.le_trans hk.1 hk.2
    rw [flat_drop ps i hi'] at hr
    refine sw_skip ?_
    refine sp_then ?_
    refine sw_seq ?_
    refine sw_block ?_
    refine sw_seq ?_
    refine sw_region ?_
    refine r_idx (tl rfl) rfl rfl (by omega) (by omega) (by first | exact .head _ | exact .tail _ (.head _) | exact .tail _ (.tail _ (.head _)) | exact .tail _ (.tail _ (.tail _ (.head _))) | exact .tail _ (.tail _ (.tail _ (.tail _ (.head _)))) | exact .tail _ (.tail _ (.tail _ (.tail _ (.tail _ (.head _))))) | exact .tail _ (.tail _ (.tail _ (.tail _ (.tail _ (.tail _ (.head _)))))) | exact .tail _ (.tail _ (.tail _ (.tail _ (.tail _ (.tail _ (.tail _ (.head _))))))) | exact .tail _ (.tail _ (.tail _ (.tail _ (.tail _ (.tail _ (.tail _ (.tail _ (.head _)))))))) | exact .tail _ (.tail _ (.tail _ (.tail _ (.tail _ (.tail _ (.tail _ (.tail _ (.tail _ (.head _))))))))) | exact .tail _ (.tail _ (.tail _ (.tail _ (.tail _ (.tail _ (.tail _ (.tail _ (.tail _ (.tail _ (.head _)))))))))) | exact .tail _ (.tail _ (.tail _ (.tail _ (.tail _ (.tail _ (.tail _ (.tail _ (.tail _ (.tail _ (.tail _ (.head _)))))))))))) (by simp [partsV]) rfl (Int.toNat_natCast _) rfl ?_
    refine r_load_mem1 (v := ps[i].v) (tz rfl) rfl (by first | exact .head _ | exact .tail _ (.head _) | exact .tail _ (.tail _ (.head _)) | exact .tail _ (.tail _ (.tail _ (.head _))) | exact .tail _ (.tail _ (.tail _ (.tail _ (.head _)))) | exact .tail _ (.tail _ (.tail _ (.tail _ (.tail _ (.head _))))) | exact .tail _ (.tail _ (.tail _ (.tail _ (.tail _ (.tail _ (.head _)))))) | exact .tail _ (.tail _ (.tail _ (.tail _ (.tail _ (.tail _ (.tail _ (.head _))))))) | exact .tail _ (.tail _ (.tail _ (.tail _ (.tail _ (.tail _ (.tail _ (.tail _ (.head _)))))))) | exact .tail _ (.tail _ (.tail _ (.tail _ (.tail _ (.tail _ (.tail _ (.tail _ (.tail _ (.head _))))))))) | exact .tail _ (.tail _ (.tail _ (.tail _ (.tail _ (.tail _ (.tail _ (.tail _ (.tail _ (.tail _ (.head _)))))))))) | exact .tail _ (.tail _ (.tail _ (.tail _ (.tail _ (.tail _ (.tail _ (.tail _ (.tail _ (.tail _ (.tail _ (.head _)))))))))))) (by simp [partsV, hi']) rfl ?_
    refine f_have (φ := ps[i].res) (fun V w h => h _ (.tail _ (.head _)) _ (List.getElem_mem hi')) ?_
    refine r_assign (k := ?_)
    refine sl_nil ?_
    refine sp_then ?_
    refine sw_seq ?_
    refine sw_region ?_
    refine r_move (k := ?_)
    refine r_len (k := ?_)
    refine r_move (k := ?_)
    refine sl_nil ?_
    refine sp_then ?_
    refine sw_block ?_
    refine sw_loop (ι := { p : Nat × σ // p.1 ≤ ps[i].xs.length ∧ At Y go A s0 (flat ps) p.2 (ps[i].xs.drop p.1 ++ flat (ps.drop (i + 1))) })
      (fun p => [(0, yv l), (7, .slice ba ps.length cap), (8, vi (ps.length : Int)), (9, vi (i : Int)), (13, ps[i].v), (14, vi (ps[i].xs.length : Int)), (15, vi (p.1.1 : Int))]) (fun _ => []) (fun _ => [ps[i].res, Res.mem ba (partsV ps), Res.all ps BS.res]) (fun p => [J p.1.2]) (fun p => ps[i].xs.length - p.1.1) ⟨(0, s), by simp, hr⟩ ?_ fun j => ?_
    · exact Ent.mk' (by repeat' (first | trivial | exact rfl | apply And.intro)) (by repeat' (first | trivial | exact .head _ | exact .tail _ (.head _) | exact .tail _ (.tail _ (.head _)) | exact .tail _ (.tail _ (.tail _ (.head _))) | exact .tail _ (.tail _ (.tail _ (.tail _ (.head _)))) | exact .tail _ (.tail _ (.tail _ (.tail _ (.tail _ (.head _))))) | exact .tail _ (.tail _ (.tail _ (.tail _ (.tail _ (.tail _ (.head _)))))) | exact .tail _ (.tail _ (.tail _ (.tail _ (.tail _ (.tail _ (.tail _ (.head _))))))) | exact .tail _ (.tail _ (.tail _ (.tail _ (.tail _ (.tail _ (.tail _ (.tail _ (.head _)))))))) | exact .tail _ (.tail _ (.tail _ (.tail _ (.tail _ (.tail _ (.tail _ (.tail _ (.tail _ (.head _))))))))) | exact .tail _ (.tail _ (.tail _ (.tail _ (.tail _ (.tail _ (.tail _ (.tail _ (.tail _ (.tail _ (.head _)))))))))) | exact .tail _ (.tail _ (.tail _ (.tail _ (.tail _ (.tail _ (.tail _ (.tail _ (.tail _ (.tail _ (.tail _ (.head _))))))))))) | apply And.intro))
    obtain ⟨⟨j, s⟩, hj, hr⟩ := j
    dsimp only at hj hr ⊢
    refine sw_seq ?_
    refine sw_region ?_
    refine r_lss (k := ?_)
    refine sl_nil ?_
    refine sp_then ?_
    refine sw_seq ?_
    refine sw_cond rfl (fun h => ?_) (fun h => ?_)
    · have h := of_decide_eq_true h
      have hj' : j < ps[i].xs.length := by omega
      rw [drop_cons _ j hj', List.cons_append] at hr
      refine sw_skip ?_
      refine sp_then ?_
      refine sw_seq ?_
      refine sw_block ?_
      refine sw_seq ?_
      refine sw_region ?_
      refine r_idx (k := ?_)
      refine r_load_mem1 (v := v8 ps[i].xs[j]) (tz rfl) rfl (by first | exact .head _ | exact .tail _ (.head _) | exact .tail _ (.tail _ (.head _)) | exact .tail _ (.tail _ (.tail _ (.head _))) | exact .tail _ (.tail _ (.tail _ (.tail _ (.head _)))) | exact .tail _ (.tail _ (.tail _ (.tail _ (.tail _ (.head _))))) | exact .tail _ (.tail _ (.tail _ (.tail _ (.tail _ (.tail _ (.head _)))))) | exact .tail _ (.tail _ (.tail _ (.tail _ (.tail _ (.tail _ (.tail _ (.head _))))))) | exact .tail _ (.tail _ (.tail _ (.tail _ (.tail _ (.tail _ (.tail _ (.tail _ (.head _)))))))) | exact .tail _ (.tail _ (.tail _ (.tail _ (.tail _ (.tail _ (.tail _ (.tail _ (.tail _ (.head _))))))))) | exact .tail _ (.tail _ (.tail _ (.tail _ (.tail _ (.tail _ (.tail _ (.tail _ (.tail _ (.tail _ (.head _)))))))))) | exact .tail _ (.tail _ (.tail _ (.tail _ (.tail _ (.tail _ (.tail _ (.tail _ (.tail _ (.tail _ (.tail _ (.head _)))))))))))) (by rw [Nat.mul_one]; exact bv_get _ _ hj') rfl ?_
      refine r_assign (k := ?_)
      refine sl_nil ?_
      refine sp_then ?_
      refine sw_seq ?_
      refine sw_region ?_
      refine r_move (k := ?_)
      refine r_move (k := ?_)
      refine r_yield hY hr.go' hr.give rfl rfl (el := ps[i].xs[j]) (fun _ _ _ => rfl) rfl ?_
      refine r_not (k := ?_)
      refine sl_nil ?_
      refine sp_then ?_
      cases hg : go (Y s ps[i].xs[j])
      · refine swd_t (h := ?_)
        refine sw_ret ?_
        refine sp_block_ret ?_
        refine sp_then_ret ?_
        refine sp_loop_ret ?_
        refine sp_block_ret ?_
        refine sp_block_ret ?_
        refine sp_then_ret ?_
        refine sp_loop_ret ?_
        refine sp_block_ret ?_
        refine sp_iret rfl rfl rfl ⟨hr.stop hg, rfl, rfl⟩ (by simp) rfl (by simp) rfl
      · refine swd_f (h := ?_)
        refine sw_skip ?_
        refine sp_block ?_
        refine sp_then ?_
        refine sw_region ?_
        refine r_add64 (k := ?_)
        refine r_move (k := ?_)
        refine sl_nil ?_
        refine sp_loop (ι := { p : Nat × σ // p.1 ≤ ps[i].xs.length ∧ At Y go A s0 (flat ps) p.2 (ps[i].xs.drop p.1 ++ flat (ps.drop (i + 1))) }) ⟨(j + 1, Y s ps[i].xs[j]), by dsimp only; omega, hr.next hg⟩ ?_ ?_
        · dsimp only; omega
        · exact Ent.mk' (by repeat' (first | trivial | exact rfl | apply And.intro)) (by repeat' (first | trivial | exact .head _ | exact .tail _ (.head _) | exact .tail _ (.tail _ (.head _)) | exact .tail _ (.tail _ (.tail _ (.head _))) | exact .tail _ (.tail _ (.tail _ (.tail _ (.head _)))) | exact .tail _ (.tail _ (.tail _ (.tail _ (.tail _ (.head _))))) | exact .tail _ (.tail _ (.tail _ (.tail _ (.tail _ (.tail _ (.head _)))))) | exact .tail _ (.tail _ (.tail _ (.tail _ (.tail _ (.tail _ (.tail _ (.head _))))))) | exact .tail _ (.tail _ (.tail _ (.tail _ (.tail _ (.tail _ (.tail _ (.tail _ (.head _)))))))) | exact .tail _ (.tail _ (.tail _ (.tail _ (.tail _ (.tail _ (.tail _ (.tail _ (.tail _ (.head _))))))))) | exact .tail _ (.tail _ (.tail _ (.tail _ (.tail _ (.tail _ (.tail _ (.tail _ (.tail _ (.tail _ (.head _)))))))))) | exact .tail _ (.tail _ (.tail _ (.tail _ (.tail _ (.tail _ (.tail _ (.tail _ (.tail _ (.tail _ (.tail _ (.head _))))))))))) | apply And.intro))
    · have h := of_decide_eq_false h
      obtain rfl : j = ps[i].xs.length := by omega
      rw [List.drop_length, List.nil_append] at hr
      refine sw_exit ?_
      refine sp_then_exit ?_
      refine sp_loop_exit ?_
      refine sp_block_exit ?_
      refine sp_block ?_
      refine sp_then ?_
      refine sw_region ?_
      refine r_add64 (k := ?_)
      refine r_move (k := ?_)
      refine sl_nil ?_
      refine sp_loop (ι := { p : Nat × σ // p.1 ≤ ps.length ∧ At Y go A s0 (flat ps) p.2 (flat (ps.drop p.1)) }) ⟨(i + 1, s), by dsimp only; omega, hr⟩ ?_ ?_
      · dsimp only; omega
      · exact Ent.mk' (by repeat' (first | trivial | exact rfl | apply And.intro)) (by repeat' (first | trivial | exact .head _ | exact .tail _ (.head _) | exact .tail _ (.tail _ (.head _)) | exact .tail _ (.tail _ (.tail _ (.head _))) | exact .tail _ (.tail _ (.tail _ (.tail _ (.head _)))) | exact .tail _ (.tail _ (.tail _ (.tail _ (.tail _ (.head _))))) | exact .tail _ (.tail _ (.tail _ (.tail _ (.tail _ (.tail _ (.head _)))))) | exact .tail _ (.tail _ (.tail _ (.tail _ (.tail _ (.tail _ (.tail _ (.head _))))))) | exact .tail _ (.tail _ (.tail _ (.tail _ (.tail _ (.tail _ (.tail _ (.tail _ (.head _)))))))) | exact .tail _ (.tail _ (.tail _ (.tail _ (.tail _ (.tail _ (.tail _ (.tail _ (.tail _ (.head _))))))))) | exact .tail _ (.tail _ (.tail _ (.tail _ (.tail _ (.tail _ (.tail _ (.tail _ (.tail _ (.tail _ (.head _)))))))))) | exact .tail _ (.tail _ (.tail _ (.tail _ (.tail _ (.tail _ (.tail _ (.tail _ (.tail _ (.tail _ (.tail _ (.head _))))))))))) | apply And.intro))
  · have h := of_decide_eq_false h
    obtain rfl : i = ps.length := by omega
    rw [List.drop_length] at hr
    refine sw_exit ?_
    refine sp_then_exit ?_
    refine sp_loop_exit ?_
    refine sp_block_exit ?_
    refine sp_inorm rfl rfl rfl ⟨hr.done, rfl, rfl⟩ (by simp) rfl (by simp) rfl

theorem c_bytes (G : Res) (ba : Option Addr) (n cap : Nat) : Ctr Tryd.prog G 86 [.slice ba n cap] [] [] (retF fun v Φ' => ∃ b, v = .func (.func 110) #[] #[.pointer (some ⟨b, 0, none⟩)] ∧ Φ' = [Res.mem (some ⟨b, 0, none⟩) [.slice ba n cap]]) := by
  refine Ctr.intro Tryd.func86 (by kernel_rfl) rfl Tryd.ntmps86 rfl rfl rfl fun w X => ?_
  refine sw_seq ?_
  refine sw_region ?_
  refine r_box (k := fun bx => ?_)
  refine r_assign (k := ?_)
  refine sl_nil ?_
  refine sp_then ?_
  refine sw_seq ?_
  refine sw_region ?_
  refine r_clos (k := ?_)
  refine r_assign (k := ?_)
  refine sl_nil ?_
  refine sp_then ?_
  refine sw_ret ?_
  refine sp_freeze ?_
  refine sp_retv rfl rfl (.tmp rfl) rfl rfl ⟨rfl, _, rfl, rfl⟩ (by simp) rfl (by simp)

def step (x : UInt64) (b : UInt8) : UInt64 := reckon (x.toUInt8 ^^^ b) ^^^ (x >>> 8)
def sum (l : List UInt8) : UInt64 := ~~~ (l.foldl step (UInt64.ofNat 18446744073709551615))

theorem c_sum (G : Res) (ba : Option Addr) (cap : Nat) (ps : List BS) (hok : ∀ p ∈ ps, p.ok) (hn : ps.length ≤ maxLen) : Ctr Tryd.prog G 49 [.slice ba ps.length cap] [] [Res.mem ba (partsV ps), Res.all ps BS.res] (ret1 (v64 (sum (flat ps)))) := by
  refine Ctr.intro Tryd.func49 (by kernel_rfl) rfl Tryd.ntmps49 rfl rfl rfl fun w X => ?_
  refine sw_seq ?_
  refine sw_region ?_
  refine r_assign (k := ?_)
  refine sl_nil ?_
  refine sp_then ?_
  refine sw_seq ?_
  refine sw_region ?_
  refine r_alloc (by exact z25) (by exact rfl) (by exact rfl) fun b => ?_
  refine r_store_all (k := ?_)
  refine sl_nil ?_
  refine sp_then ?_
  refine sw_seq ?_
  refine sw_seq ?_
  refine sw_region ?_
  refine r_move (k := ?_)
  refine r_callF (c_bytes G _ _ _) (by exact rfl) (by exact rfl) (by exact rfl) (by simp) (by exact rfl) ?_
  rintro _ _ ⟨q, rfl, rfl⟩
  refine sl_nil ?_
  refine sp_then ?_
  refine sw_block ?_
  refine sw_rangeA (i_bytes G q ba cap ps hok hn) (fun s (_ : Unit) => [.box b [v64 s] 25]) (fun _ _ => []) step (fun _ _ => True) (UInt64.ofNat 18446744073709551615) () rfl rfl rfl (adm_true _ _) (by simp) (by simp) (fun _ _ => rfl) rfl (fun x vs V w h => by rw [show vs = [v8 x] from h]; rfl) ?_ ?_
  · intro l mk rec w X U K s _ x vs hrec _ ht
    refine w_pure ?_
    rintro rfl
    refine sw_region ?_
    refine r_assign (k := ?_)
    refine sl_nil ?_
    refine sp_asgR hrec rfl ?_
    refine sw_block ?_
    refine sw_region ?_
    refine r_load_one (k := ?_)
    refine r_move (k := ?_)
    refine r_call1 (c_step G _ _) (by exact rfl) (by exact rfl) (by exact rfl) (by simp) (by exact rfl) ?_
    refine r_store_all (k := ?_)
    refine sl_nil ?_
    refine sp_block ?_
    refine sp_round (i' := ()) ht hrec rfl (by repeat (first | exact List.Sublist.refl _ | apply List.Sublist.cons)) (by simp)
  · intro _ mk
    refine sp_block ?_
    refine sp_then ?_
    refine sw_seq ?_
    refine sw_region ?_
    refine r_load_one (k := ?_)
    refine r_not64 (k := ?_)
    refine r_assign (k := ?_)
    refine sl_nil ?_
    refine sp_then ?_
    refine sw_ret ?_
    refine sp_retv rfl rfl (.tmp rfl) rfl rfl ⟨rfl, rfl, rfl⟩ (by simp) rfl (by simp)
end Go.Proofs.YtjahiohlekdhoaaDoor

namespace Go.Proofs.YtjahiohlekdhoaaDoor
open Go
set_option maxHeartbeats 4000000
set_option maxRecDepth 4000
attribute [local irreducible] SW SL SP RA Then FQ IQ LoopQ RQ AQ NX CutQ Exit.noGoto

theorem c_grow (G : Res) (n : Nat) (hn : n ≤ 140737488355328) : Ctr Tryd.prog G 109 [.slice none 0 0, vi (n : Int)] [] [] (retR 5 []) := by
  refine Ctr.intro Tryd.func109 (by kernel_rfl) rfl Tryd.ntmps109 rfl rfl rfl fun w X => ?_
  refine sw_seq ?_
  refine sw_region ?_
  refine r_assign (k := ?_)
  refine sl_nil ?_
  refine sp_then ?_
  refine sw_seq ?_
  refine sw_seq ?_
  refine sw_region ?_
  refine r_move (k := ?_)
  refine r_lss (k := ?_)
  refine sl_nil ?_
  refine sp_then ?_
  refine sw_cond rfl (fun h => ?_) (fun h => ?_)
  · have h := of_decide_eq_true h
    exact absurd h (by omega)
  refine sw_skip ?_
  refine sp_then ?_
  refine sw_seq ?_
  refine sw_seq ?_
  refine sw_region ?_
  refine r_move (k := ?_)
  refine r_move (k := ?_)
  refine r_cap (k := ?_)
  refine r_move (k := ?_)
  refine r_len (k := ?_)
  refine r_sub64 (k := ?_)
  refine r_sub64 (k := ?_)
  refine r_assign (k := ?_)
  refine sl_nil ?_
  refine sp_then ?_
  refine sw_seq ?_
  refine sw_region ?_
  refine r_move (k := ?_)
  refine r_gtr (k := ?_)
  refine sl_nil ?_
  refine sp_then ?_
  refine w_re (t := 16) (v' := vb (decide (0 < n))) rfl (by simp) ?_
  refine w_re (t := 1) (v' := vi n) rfl (by simp) ?_
  refine sw_cond rfl (fun h => ?_) (fun h => ?_)
  · have h := of_decide_eq_true h
    refine sw_region ?_
    refine r_move (k := ?_)
    refine r_move (k := ?_)
    refine r_cap (k := ?_)
    refine f_have (φ := Res.mem none []) (fun V w _ i v hv => by simp at hv) ?_
    refine r_cut (l := 0) (h := 0) (ba := none) (cs := []) (by exact tl rfl) (by exact rfl) (by first | exact .head _ | exact .tail _ (.head _) | exact .tail _ (.tail _ (.head _)) | exact .tail _ (.tail _ (.tail _ (.head _))) | exact .tail _ (.tail _ (.tail _ (.tail _ (.head _)))) | exact .tail _ (.tail _ (.tail _ (.tail _ (.tail _ (.head _))))) | exact .tail _ (.tail _ (.tail _ (.tail _ (.tail _ (.tail _ (.head _)))))) | exact .tail _ (.tail _ (.tail _ (.tail _ (.tail _ (.tail _ (.tail _ (.head _))))))) | exact .tail _ (.tail _ (.tail _ (.tail _ (.tail _ (.tail _ (.tail _ (.tail _ (.head _)))))))) | exact .tail _ (.tail _ (.tail _ (.tail _ (.tail _ (.tail _ (.tail _ (.tail _ (.tail _ (.head _))))))))) | exact .tail _ (.tail _ (.tail _ (.tail _ (.tail _ (.tail _ (.tail _ (.tail _ (.tail _ (.tail _ (.head _)))))))))) | exact .tail _ (.tail _ (.tail _ (.tail _ (.tail _ (.tail _ (.tail _ (.tail _ (.tail _ (.tail _ (.tail _ (.head _)))))))))))) rfl ⟨_, rfl⟩ (by omega) (by omega) (by omega) (by exact rfl) ?_
    refine r_re (t := 20) (v' := .slice none 0 0) rfl (by simp [cutBase]) ?_
    refine r_move (k := ?_)
    refine r_growNil (nn := n) (z0 := .int .u8 0) (by exact tl rfl) (by exact ti rfl) (by exact z5) (by exact rfl) (by exact rfl) h hn (by exact rfl) (by exact rfl) fun v zs hz => ?_
    refine r_move (k := ?_)
    refine r_len (k := ?_)
    refine r_row_cut (kq := 0) (by exact tl rfl) (by exact rfl) (by exact rfl) (by omega) h (by exact rfl) fun v' h1 h2 => ?_
    refine r_assign (k := ?_)
    refine sl_nil ?_
    refine sp_then ?_
    refine sw_seq ?_
    refine sw_region ?_
    refine r_move (k := ?_)
    refine r_assign (k := ?_)
    refine sl_nil ?_
    refine sp_then ?_
    refine sw_ret ?_
    refine sp_eqB (B' := [.row v' ([] : List UInt8).length (bv []) 5 1]) (by simp [bv]) ?_
    refine sp_retv rfl rfl (.tmp rfl) rfl rfl ⟨h1, h2, rfl, rfl⟩ (List.Sublist.refl _) rfl (by simp)
  · refine sw_skip ?_
    refine sp_then ?_
    refine sw_seq ?_
    refine sw_region ?_
    refine r_move (k := ?_)
    refine r_assign (k := ?_)
    refine sl_nil ?_
    refine sp_then ?_
    refine sw_ret ?_
    refine sp_nil 5 1 ?_
    refine sp_retv rfl rfl (.tmp rfl) rfl rfl ⟨rfl, rfl, rfl, rfl⟩ (List.Sublist.refl _) rfl (by simp)

theorem flat_take (ps : List BS) (i : Nat) (h : i < ps.length) : flat (ps.take (i + 1)) = flat (ps.take i) ++ ps[i].xs := by
  rw [List.take_succ_eq_append_getElem h, flat, flat, List.flatMap_append]; simp
theorem flat_take_le (ps : List BS) (i : Nat) : (flat (ps.take i)).length ≤ (flat ps).length := by
  conv => rhs; rw [← List.take_append_drop i ps, flat, List.flatMap_append, List.length_append]
  exact Nat.le_add_right _ _

theorem c_concat (G : Res) (ba : Option Addr) (cap : Nat) (ps : List BS) (hok : ∀ p ∈ ps, p.ok) (hn : ps.length ≤ maxLen) (hl : (flat ps).length ≤ 1099511627776) : Ctr Tryd.prog G 85 [.slice ba ps.length cap] [] [Res.mem ba (partsV ps), Res.all ps BS.res] (retR 5 (flat ps)) := by
  have hn' : ps.length ≤ 9223372036854775807 := hn
  refine Ctr.intro Tryd.func85 (by kernel_rfl) rfl Tryd.ntmps85 rfl rfl rfl fun w X => ?_
  refine sw_seq ?_
  refine sw_region ?_
  refine r_assign (k := ?_)
  refine sl_nil ?_
  refine sp_then ?_
  refine sw_seq ?_
  refine sw_region ?_
  refine r_assign (k := ?_)
  refine sl_nil ?_
  refine sp_then ?_
  refine sw_seq ?_
  refine sw_seq ?_
  refine sw_region ?_
  refine r_move (k := ?_)
  refine r_len (k := ?_)
  refine r_move (k := ?_)
  refine sl_nil ?_
  refine sp_then ?_
  refine sw_block ?_
  refine sw_loop (ι := { i : Nat // i ≤ ps.length }) (fun i => [(0, .slice ba ps.length cap), (3, vi ((flat (ps.take i.1)).length : Int)), (9, .slice ba ps.length cap), (10, vi (ps.length : Int)), (11, vi (i.1 : Int))]) (fun _ => []) (fun _ => [Res.mem ba (partsV ps), Res.all ps BS.res]) (fun _ => []) (fun i => ps.length - i.1) ⟨0, by omega⟩ ?_ fun i => ?_
  · exact Ent.mk' (by repeat' (first | trivial | exact rfl | apply And.intro)) (by repeat' (first | trivial | exact .head _ | exact .tail _ (.head _) | exact .tail _ (.tail _ (.head _)) | exact .tail _ (.tail _ (.tail _ (.head _))) | exact .tail _ (.tail _ (.tail _ (.tail _ (.head _)))) | exact .tail _ (.tail _ (.tail _ (.tail _ (.tail _ (.head _))))) | exact .tail _ (.tail _ (.tail _ (.tail _ (.tail _ (.tail _ (.head _)))))) | exact .tail _ (.tail _ (.tail _ (.tail _ (.tail _ (.tail _ (.tail _ (.head _))))))) | exact .tail _ (.tail _ (.tail _ (.tail _ (.tail _ (.tail _ (.tail _ (.tail _ (.head _)))))))) | exact .tail _ (.tail _ (.tail _ (.tail _ (.tail _ (.tail _ (.tail _ (.tail _ (.tail _ (.head _))))))))) | exact .tail _ (.tail _ (.tail _ (.tail _ (.tail _ (.tail _ (.tail _ (.tail _ (.tail _ (.tail _ (.head _)))))))))) | exact .tail _ (.tail _ (.tail _ (.tail _ (.tail _ (.tail _ (.tail _ (.tail _ (.tail _ (.tail _ (.tail _ (.head _))))))))))) | apply And.intro))
  · obtain ⟨i, hi⟩ := i
    dsimp only
    refine sw_seq ?_
    refine sw_region ?_
    refine r_lss (k := ?_)
    refine sl_nil ?_
    refine sp_then ?_
    refine sw_seq ?_
    refine sw_cond rfl (fun h => ?_) (fun h => ?_)
    · have h := of_decide_eq_true h
      have hi' : i < ps.length := by omega
      have hk := (hok _ (List.getElem_mem hi'))
      have e1 := flat_take ps i hi'
      have e2 := flat_take_le ps (i + 1)
      have e3 : (flat (ps.take (i + 1))).length = (flat (ps.take i)).length + ps[i].xs.length := by rw [e1, List.length_append]
      refine sw_skip ?_
      refine sp_then ?_
      refine sw_seq ?_
      refine sw_block ?_
      refine sw_seq ?_
      refine sw_region ?_
      refine r_idx (by exact tl rfl) (by exact rfl) (by exact rfl) (by omega) (by omega) (by first | exact .head _ | exact .tail _ (.head _) | exact .tail _ (.tail _ (.head _)) | exact .tail _ (.tail _ (.tail _ (.head _))) | exact .tail _ (.tail _ (.tail _ (.tail _ (.head _)))) | exact .tail _ (.tail _ (.tail _ (.tail _ (.tail _ (.head _))))) | exact .tail _ (.tail _ (.tail _ (.tail _ (.tail _ (.tail _ (.head _)))))) | exact .tail _ (.tail _ (.tail _ (.tail _ (.tail _ (.tail _ (.tail _ (.head _))))))) | exact .tail _ (.tail _ (.tail _ (.tail _ (.tail _ (.tail _ (.tail _ (.tail _ (.head _)))))))) | exact .tail _ (.tail _ (.tail _ (.tail _ (.tail _ (.tail _ (.tail _ (.tail _ (.tail _ (.head _))))))))) | exact .tail _ (.tail _ (.tail _ (.tail _ (.tail _ (.tail _ (.tail _ (.tail _ (.tail _ (.tail _ (.head _)))))))))) | exact .tail _ (.tail _ (.tail _ (.tail _ (.tail _ (.tail _ (.tail _ (.tail _ (.tail _ (.tail _ (.tail _ (.head _)))))))))))) (by simp [partsV]) (by exact rfl) (Int.toNat_natCast _) (by exact rfl) ?_
      refine r_load_mem1 (v := ps[i].v) (by exact tz rfl) (by exact rfl) (by first | exact .head _ | exact .tail _ (.head _) | exact .tail _ (.tail _ (.head _)) | exact .tail _ (.tail _ (.tail _ (.head _))) | exact .tail _ (.tail _ (.tail _ (.tail _ (.head _)))) | exact .tail _ (.tail _ (.tail _ (.tail _ (.tail _ (.head _))))) | exact .tail _ (.tail _ (.tail _ (.tail _ (.tail _ (.tail _ (.head _)))))) | exact .tail _ (.tail _ (.tail _ (.tail _ (.tail _ (.tail _ (.tail _ (.head _))))))) | exact .tail _ (.tail _ (.tail _ (.tail _ (.tail _ (.tail _ (.tail _ (.tail _ (.head _)))))))) | exact .tail _ (.tail _ (.tail _ (.tail _ (.tail _ (.tail _ (.tail _ (.tail _ (.tail _ (.head _))))))))) | exact .tail _ (.tail _ (.tail _ (.tail _ (.tail _ (.tail _ (.tail _ (.tail _ (.tail _ (.tail _ (.head _)))))))))) | exact .tail _ (.tail _ (.tail _ (.tail _ (.tail _ (.tail _ (.tail _ (.tail _ (.tail _ (.tail _ (.tail _ (.head _)))))))))))) (by simp [partsV, hi']) (by exact rfl) ?_
      refine r_assign (k := ?_)
      refine sl_nil ?_
      refine sp_then ?_
      refine sw_seq ?_
      refine sw_region ?_
      refine r_move (k := ?_)
      refine r_move (k := ?_)
      refine r_len (k := ?_)
      refine r_add64 (k := ?_)
      refine r_assign (k := ?_)
      refine sl_nil ?_
      refine sp_then ?_
      refine sw_seq ?_
      refine sw_region ?_
      refine r_move (k := ?_)
      refine r_lss (k := ?_)
      refine sl_nil ?_
      refine sp_then ?_
      refine w_re (t := 3) (v' := vi ((flat (ps.take (i + 1))).length : Int)) rfl (by rw [e3]; simp) ?_
      skip
      refine sw_cond rfl (fun h => ?_) (fun h => ?_)
      · have h := of_decide_eq_true h
        exact absurd h (by omega)
      refine sw_skip ?_
      refine sp_block ?_
      refine sp_then ?_
      refine sw_region ?_
      refine r_add64 (k := ?_)
      refine r_move (k := ?_)
      refine sl_nil ?_
      refine sp_loop (ι := { i : Nat // i ≤ ps.length }) ⟨i + 1, by omega⟩ ?_ ?_
      · dsimp only; omega
      · exact Ent.mk' (by repeat' (first | trivial | exact rfl | apply And.intro)) (by repeat' (first | trivial | exact .head _ | exact .tail _ (.head _) | exact .tail _ (.tail _ (.head _)) | exact .tail _ (.tail _ (.tail _ (.head _))) | exact .tail _ (.tail _ (.tail _ (.tail _ (.head _)))) | exact .tail _ (.tail _ (.tail _ (.tail _ (.tail _ (.head _))))) | exact .tail _ (.tail _ (.tail _ (.tail _ (.tail _ (.tail _ (.head _)))))) | exact .tail _ (.tail _ (.tail _ (.tail _ (.tail _ (.tail _ (.tail _ (.head _))))))) | exact .tail _ (.tail _ (.tail _ (.tail _ (.tail _ (.tail _ (.tail _ (.tail _ (.head _)))))))) | exact .tail _ (.tail _ (.tail _ (.tail _ (.tail _ (.tail _ (.tail _ (.tail _ (.tail _ (.head _))))))))) | exact .tail _ (.tail _ (.tail _ (.tail _ (.tail _ (.tail _ (.tail _ (.tail _ (.tail _ (.tail _ (.head _)))))))))) | exact .tail _ (.tail _ (.tail _ (.tail _ (.tail _ (.tail _ (.tail _ (.tail _ (.tail _ (.tail _ (.tail _ (.head _))))))))))) | apply And.intro))
    · have h := of_decide_eq_false h
      obtain rfl : i = ps.length := by omega
      rw [List.take_length]
      refine sw_exit ?_
      refine sp_then_exit ?_
      refine sp_loop_exit ?_
      refine sp_block_exit ?_
      refine sp_then ?_
      refine sw_seq ?_
      refine sw_region ?_
      refine r_move (k := ?_)
      refine r_callR (Bp := []) (Br := []) (c_grow G (flat ps).length (by omega)) (by exact rfl) (by exact rfl) (by exact rfl) (by simp) (by exact rfl) fun v h1 h2 => ?_
      refine r_assign (k := ?_)
      refine sl_nil ?_
      refine sp_then ?_
      refine sw_seq ?_
      refine sw_seq ?_
      refine sw_region ?_
      refine r_move (k := ?_)
      refine r_len (k := ?_)
      refine r_move (k := ?_)
      refine sl_nil ?_
      refine sp_then ?_
      refine sw_block ?_
      refine sw_loop (ι := { p : Nat × Value // p.1 ≤ ps.length ∧ p.2.cells = #[p.2] ∧ p.2.oneCell' = true }) (fun p => [(6, p.1.2), (25, .slice ba ps.length cap), (26, vi (ps.length : Int)), (27, vi (p.1.1 : Int))]) (fun p => [.row p.1.2 (flat (ps.take p.1.1)).length (bv (flat (ps.take p.1.1))) 5 1]) (fun _ => [Res.mem ba (partsV ps), Res.all ps BS.res]) (fun _ => []) (fun i => ps.length - i.1.1) ⟨(0, v), by simp, h1, h2⟩ ?_ fun i => ?_
      · exact Ent.mk' (by repeat' (first | trivial | exact rfl | apply And.intro)) (by repeat' (first | trivial | exact .head _ | exact .tail _ (.head _) | exact .tail _ (.tail _ (.head _)) | exact .tail _ (.tail _ (.tail _ (.head _))) | exact .tail _ (.tail _ (.tail _ (.tail _ (.head _)))) | exact .tail _ (.tail _ (.tail _ (.tail _ (.tail _ (.head _))))) | exact .tail _ (.tail _ (.tail _ (.tail _ (.tail _ (.tail _ (.head _)))))) | exact .tail _ (.tail _ (.tail _ (.tail _ (.tail _ (.tail _ (.tail _ (.head _))))))) | exact .tail _ (.tail _ (.tail _ (.tail _ (.tail _ (.tail _ (.tail _ (.tail _ (.head _)))))))) | exact .tail _ (.tail _ (.tail _ (.tail _ (.tail _ (.tail _ (.tail _ (.tail _ (.tail _ (.head _))))))))) | exact .tail _ (.tail _ (.tail _ (.tail _ (.tail _ (.tail _ (.tail _ (.tail _ (.tail _ (.tail _ (.head _)))))))))) | exact .tail _ (.tail _ (.tail _ (.tail _ (.tail _ (.tail _ (.tail _ (.tail _ (.tail _ (.tail _ (.tail _ (.head _))))))))))) | apply And.intro))
      obtain ⟨⟨i, v⟩, hi, h1, h2⟩ := i
      dsimp only at hi h1 h2 ⊢
      refine sw_seq ?_
      refine sw_region ?_
      refine r_lss (k := ?_)
      refine sl_nil ?_
      refine sp_then ?_
      refine sw_seq ?_
      refine sw_cond rfl (fun h => ?_) (fun h => ?_)
      · have h := of_decide_eq_true h
        have hi' : i < ps.length := by omega
        have hk := (hok _ (List.getElem_mem hi'))
        have e1 := flat_take ps i hi'
        have e2 := flat_take_le ps (i + 1)
        have e3 : (flat (ps.take (i + 1))).length = (flat (ps.take i)).length + ps[i].xs.length := by rw [e1, List.length_append]
        refine sw_skip ?_
        refine sp_then ?_
        refine sw_seq ?_
        refine sw_block ?_
        refine sw_seq ?_
        refine sw_region ?_
        refine r_idx (by exact tl rfl) (by exact rfl) (by exact rfl) (by omega) (by omega) (by first | exact .head _ | exact .tail _ (.head _) | exact .tail _ (.tail _ (.head _)) | exact .tail _ (.tail _ (.tail _ (.head _))) | exact .tail _ (.tail _ (.tail _ (.tail _ (.head _)))) | exact .tail _ (.tail _ (.tail _ (.tail _ (.tail _ (.head _))))) | exact .tail _ (.tail _ (.tail _ (.tail _ (.tail _ (.tail _ (.head _)))))) | exact .tail _ (.tail _ (.tail _ (.tail _ (.tail _ (.tail _ (.tail _ (.head _))))))) | exact .tail _ (.tail _ (.tail _ (.tail _ (.tail _ (.tail _ (.tail _ (.tail _ (.head _)))))))) | exact .tail _ (.tail _ (.tail _ (.tail _ (.tail _ (.tail _ (.tail _ (.tail _ (.tail _ (.head _))))))))) | exact .tail _ (.tail _ (.tail _ (.tail _ (.tail _ (.tail _ (.tail _ (.tail _ (.tail _ (.tail _ (.head _)))))))))) | exact .tail _ (.tail _ (.tail _ (.tail _ (.tail _ (.tail _ (.tail _ (.tail _ (.tail _ (.tail _ (.tail _ (.head _)))))))))))) (by simp [partsV]) (by exact rfl) (Int.toNat_natCast _) (by exact rfl) ?_
        refine r_load_mem1 (v := ps[i].v) (by exact tz rfl) (by exact rfl) (by first | exact .head _ | exact .tail _ (.head _) | exact .tail _ (.tail _ (.head _)) | exact .tail _ (.tail _ (.tail _ (.head _))) | exact .tail _ (.tail _ (.tail _ (.tail _ (.head _)))) | exact .tail _ (.tail _ (.tail _ (.tail _ (.tail _ (.head _))))) | exact .tail _ (.tail _ (.tail _ (.tail _ (.tail _ (.tail _ (.head _)))))) | exact .tail _ (.tail _ (.tail _ (.tail _ (.tail _ (.tail _ (.tail _ (.head _))))))) | exact .tail _ (.tail _ (.tail _ (.tail _ (.tail _ (.tail _ (.tail _ (.tail _ (.head _)))))))) | exact .tail _ (.tail _ (.tail _ (.tail _ (.tail _ (.tail _ (.tail _ (.tail _ (.tail _ (.head _))))))))) | exact .tail _ (.tail _ (.tail _ (.tail _ (.tail _ (.tail _ (.tail _ (.tail _ (.tail _ (.tail _ (.head _)))))))))) | exact .tail _ (.tail _ (.tail _ (.tail _ (.tail _ (.tail _ (.tail _ (.tail _ (.tail _ (.tail _ (.tail _ (.head _)))))))))))) (by simp [partsV, hi']) (by exact rfl) ?_
        refine f_have (φ := ps[i].res) (fun V w h => h _ (.tail _ (.head _)) _ (List.getElem_mem hi')) ?_
        refine r_assign (k := ?_)
        refine sl_nil ?_
        refine sp_then ?_
        refine sw_region ?_
        refine r_move (k := ?_)
        refine r_move (k := ?_)
        refine r_appendB (s := ps[i]) (by exact tl rfl) (by exact z5) (by exact rfl) (by exact rfl) (by first | exact .head _ | exact .tail _ (.head _) | exact .tail _ (.tail _ (.head _)) | exact .tail _ (.tail _ (.tail _ (.head _))) | exact .tail _ (.tail _ (.tail _ (.tail _ (.head _)))) | exact .tail _ (.tail _ (.tail _ (.tail _ (.tail _ (.head _))))) | exact .tail _ (.tail _ (.tail _ (.tail _ (.tail _ (.tail _ (.head _)))))) | exact .tail _ (.tail _ (.tail _ (.tail _ (.tail _ (.tail _ (.tail _ (.head _))))))) | exact .tail _ (.tail _ (.tail _ (.tail _ (.tail _ (.tail _ (.tail _ (.tail _ (.head _)))))))) | exact .tail _ (.tail _ (.tail _ (.tail _ (.tail _ (.tail _ (.tail _ (.tail _ (.tail _ (.head _))))))))) | exact .tail _ (.tail _ (.tail _ (.tail _ (.tail _ (.tail _ (.tail _ (.tail _ (.tail _ (.tail _ (.head _)))))))))) | exact .tail _ (.tail _ (.tail _ (.tail _ (.tail _ (.tail _ (.tail _ (.tail _ (.tail _ (.tail _ (.tail _ (.head _)))))))))))) (by omega) (by exact rfl) fun v' h3 h4 => ?_
        rw [← e1]
        refine r_assign (k := ?_)
        refine sl_nil ?_
        refine sp_block ?_
        refine sp_then ?_
        refine sw_region ?_
        refine r_add64 (k := ?_)
        refine r_move (k := ?_)
        refine sl_nil ?_
        refine sp_loop (ι := { p : Nat × Value // p.1 ≤ ps.length ∧ p.2.cells = #[p.2] ∧ p.2.oneCell' = true }) ⟨(i + 1, v'), by dsimp only; omega, h3, h4⟩ ?_ ?_
        · dsimp only; omega
        · exact Ent.mk' (by repeat' (first | trivial | exact rfl | apply And.intro)) (by repeat' (first | trivial | exact .head _ | exact .tail _ (.head _) | exact .tail _ (.tail _ (.head _)) | exact .tail _ (.tail _ (.tail _ (.head _))) | exact .tail _ (.tail _ (.tail _ (.tail _ (.head _)))) | exact .tail _ (.tail _ (.tail _ (.tail _ (.tail _ (.head _))))) | exact .tail _ (.tail _ (.tail _ (.tail _ (.tail _ (.tail _ (.head _)))))) | exact .tail _ (.tail _ (.tail _ (.tail _ (.tail _ (.tail _ (.tail _ (.head _))))))) | exact .tail _ (.tail _ (.tail _ (.tail _ (.tail _ (.tail _ (.tail _ (.tail _ (.head _)))))))) | exact .tail _ (.tail _ (.tail _ (.tail _ (.tail _ (.tail _ (.tail _ (.tail _ (.tail _ (.head _))))))))) | exact .tail _ (.tail _ (.tail _ (.tail _ (.tail _ (.tail _ (.tail _ (.tail _ (.tail _ (.tail _ (.head _)))))))))) | exact .tail _ (.tail _ (.tail _ (.tail _ (.tail _ (.tail _ (.tail _ (.tail _ (.tail _ (.tail _ (.tail _ (.head _))))))))))) | apply And.intro))
      · have h := of_decide_eq_false h
        obtain rfl : i = ps.length := by omega
        rw [List.take_length]
        refine sw_exit ?_
        refine sp_then_exit ?_
        refine sp_loop_exit ?_
        refine sp_block_exit ?_
        refine sp_then ?_
        refine sw_seq ?_
        refine sw_region ?_
        refine r_move (k := ?_)
        refine r_assign (k := ?_)
        refine sl_nil ?_
        refine sp_then ?_
        refine sw_ret ?_
        refine sp_retv rfl rfl (.tmp rfl) rfl rfl ⟨h1, h2, rfl, rfl⟩ (List.Sublist.refl _) rfl (by simp)

/-- pack.PutBytes -/
theorem c_putBytes (G : Res) (b s : BS) (hb : b.ok) (hs : s.ok) (hbl : b.xs.length ≤ 1099511620000) (hsl : s.xs.length ≤ 255) : Ctr Tryd.prog G 48 [b.v, s.v] [] [b.res, s.res] (retR 5 (b.xs ++ UInt8.ofNat s.xs.length :: s.xs)) := by
  refine Ctr.intro Tryd.func48 (by kernel_rfl) rfl Tryd.ntmps48 rfl rfl rfl fun w X => ?_
  refine sw_seq ?_
  refine sw_region ?_
  refine r_assign (k := ?_)
  refine sl_nil ?_
  refine sp_then ?_
  refine sw_seq ?_
  refine sw_region ?_
  refine r_move (k := ?_)
  refine r_move (k := ?_)
  refine r_len (k := ?_)
  refine r_min (k := ?_)
  refine r_re (t := 8) (v' := vi (s.xs.length : Int)) rfl (by rw [if_neg (by omega)]) ?_
  refine r_cutB (s := s) (l := 0) (h := s.xs.length) (by exact tl rfl) (by exact rfl) (by first | exact .head _ | exact .tail _ (.head _) | exact .tail _ (.tail _ (.head _)) | exact .tail _ (.tail _ (.tail _ (.head _))) | exact .tail _ (.tail _ (.tail _ (.tail _ (.head _)))) | exact .tail _ (.tail _ (.tail _ (.tail _ (.tail _ (.head _))))) | exact .tail _ (.tail _ (.tail _ (.tail _ (.tail _ (.tail _ (.head _)))))) | exact .tail _ (.tail _ (.tail _ (.tail _ (.tail _ (.tail _ (.tail _ (.head _))))))) | exact .tail _ (.tail _ (.tail _ (.tail _ (.tail _ (.tail _ (.tail _ (.tail _ (.head _)))))))) | exact .tail _ (.tail _ (.tail _ (.tail _ (.tail _ (.tail _ (.tail _ (.tail _ (.tail _ (.head _))))))))) | exact .tail _ (.tail _ (.tail _ (.tail _ (.tail _ (.tail _ (.tail _ (.tail _ (.tail _ (.tail _ (.head _)))))))))) | exact .tail _ (.tail _ (.tail _ (.tail _ (.tail _ (.tail _ (.tail _ (.tail _ (.tail _ (.tail _ (.tail _ (.head _)))))))))))) hs rfl ⟨_, rfl⟩ (by omega) (Nat.le_refl _) (by exact rfl) fun s2 hs2 hx2 => ?_
  have hx2 : s2.xs = s.xs := by rw [hx2]; simp
  refine r_assign (k := ?_)
  refine sl_nil ?_
  refine sp_then ?_
  refine sw_seq ?_
  refine sw_region ?_
  refine r_move (k := ?_)
  refine r_move (k := ?_)
  refine r_len (k := ?_)
  refine r_cv_i_8 (k := ?_)
  refine r_litB (xs := [.tmp 13]) (bs := [UInt8.ofNat s2.xs.length]) (by exact tl rfl) (by exact z5) (by exact rfl) (by exact rfl) (by exact rfl) (by exact rfl) (by exact rfl) fun v h1 h2 => ?_
  refine o_rowB fun one hone hxo e => ?_
  subst e
  refine r_move (k := ?_)
  refine r_lit (vs := [b.v, one.v, s2.v]) (xs := [.tmp 10, .tmp 14, .tmp 15]) (cells := [b.v, one.v, s2.v]) (by exact tl rfl) (by exact z28) (by exact rfl) (by exact rfl) (by intro v hv; simp at hv; rcases hv with rfl | rfl | rfl <;> rfl) (by decide) (by decide) (by exact rfl) (by exact rfl) (by exact rfl) fun q => ?_
  refine o_row fun ba cap e h1 h2 h3 => ?_
  cases e
  refine f_have (φ := Res.all [b, one, s2] BS.res) (fun V w h p hp => ?_) ?_
  · simp at hp
    rcases hp with rfl | rfl | rfl
    · exact h _ (by first | exact .head _ | exact .tail _ (.head _) | exact .tail _ (.tail _ (.head _)) | exact .tail _ (.tail _ (.tail _ (.head _))) | exact .tail _ (.tail _ (.tail _ (.tail _ (.head _)))) | exact .tail _ (.tail _ (.tail _ (.tail _ (.tail _ (.head _))))) | exact .tail _ (.tail _ (.tail _ (.tail _ (.tail _ (.tail _ (.head _)))))) | exact .tail _ (.tail _ (.tail _ (.tail _ (.tail _ (.tail _ (.tail _ (.head _))))))) | exact .tail _ (.tail _ (.tail _ (.tail _ (.tail _ (.tail _ (.tail _ (.tail _ (.head _)))))))) | exact .tail _ (.tail _ (.tail _ (.tail _ (.tail _ (.tail _ (.tail _ (.tail _ (.tail _ (.head _))))))))) | exact .tail _ (.tail _ (.tail _ (.tail _ (.tail _ (.tail _ (.tail _ (.tail _ (.tail _ (.tail _ (.head _)))))))))) | exact .tail _ (.tail _ (.tail _ (.tail _ (.tail _ (.tail _ (.tail _ (.tail _ (.tail _ (.tail _ (.tail _ (.head _))))))))))))
    · exact h _ (by first | exact .head _ | exact .tail _ (.head _) | exact .tail _ (.tail _ (.head _)) | exact .tail _ (.tail _ (.tail _ (.head _))) | exact .tail _ (.tail _ (.tail _ (.tail _ (.head _)))) | exact .tail _ (.tail _ (.tail _ (.tail _ (.tail _ (.head _))))) | exact .tail _ (.tail _ (.tail _ (.tail _ (.tail _ (.tail _ (.head _)))))) | exact .tail _ (.tail _ (.tail _ (.tail _ (.tail _ (.tail _ (.tail _ (.head _))))))) | exact .tail _ (.tail _ (.tail _ (.tail _ (.tail _ (.tail _ (.tail _ (.tail _ (.head _)))))))) | exact .tail _ (.tail _ (.tail _ (.tail _ (.tail _ (.tail _ (.tail _ (.tail _ (.tail _ (.head _))))))))) | exact .tail _ (.tail _ (.tail _ (.tail _ (.tail _ (.tail _ (.tail _ (.tail _ (.tail _ (.tail _ (.head _)))))))))) | exact .tail _ (.tail _ (.tail _ (.tail _ (.tail _ (.tail _ (.tail _ (.tail _ (.tail _ (.tail _ (.tail _ (.head _))))))))))))
    · exact h _ (by first | exact .head _ | exact .tail _ (.head _) | exact .tail _ (.tail _ (.head _)) | exact .tail _ (.tail _ (.tail _ (.head _))) | exact .tail _ (.tail _ (.tail _ (.tail _ (.head _)))) | exact .tail _ (.tail _ (.tail _ (.tail _ (.tail _ (.head _))))) | exact .tail _ (.tail _ (.tail _ (.tail _ (.tail _ (.tail _ (.head _)))))) | exact .tail _ (.tail _ (.tail _ (.tail _ (.tail _ (.tail _ (.tail _ (.head _))))))) | exact .tail _ (.tail _ (.tail _ (.tail _ (.tail _ (.tail _ (.tail _ (.tail _ (.head _)))))))) | exact .tail _ (.tail _ (.tail _ (.tail _ (.tail _ (.tail _ (.tail _ (.tail _ (.tail _ (.head _))))))))) | exact .tail _ (.tail _ (.tail _ (.tail _ (.tail _ (.tail _ (.tail _ (.tail _ (.tail _ (.tail _ (.head _)))))))))) | exact .tail _ (.tail _ (.tail _ (.tail _ (.tail _ (.tail _ (.tail _ (.tail _ (.tail _ (.tail _ (.tail _ (.head _))))))))))))
  have e : flat [b, one, s2] = b.xs ++ UInt8.ofNat s.xs.length :: s.xs := by simp [flat, hxo, hx2]
  refine r_callR (Bp := []) (Br := []) (c_concat G (some ⟨q, 0, none⟩) 3 [b, one, s2] (by intro p hp; simp at hp; rcases hp with rfl | rfl | rfl <;> assumption) (by simp [maxLen]) (by rw [e]; simp; omega)) (by exact rfl) (by exact rfl) (by exact rfl) (by simp [partsV]) (by exact rfl) fun v h1 h2 => ?_
  rw [e]
  refine r_assign (k := ?_)
  refine sl_nil ?_
  refine sp_then ?_
  refine sw_ret ?_
  refine sp_retv rfl rfl (.tmp rfl) rfl rfl ⟨h1, h2, rfl, rfl⟩ (List.Sublist.refl _) rfl (by simp)

/-- What TakeBytes tells of a length and what is behind it: bytes, the rest, an error. -/
def takeB (n : UInt8) (l : List UInt8) (most : Int) : List UInt8 × List UInt8 × Int :=
  if (l.length : Int) + 1 ≤ (n.toNat : Int) then ([], n :: l, 20) else if most < (n.toNat : Int) then ([], n :: l, 21) else (l.take n.toNat, l.drop n.toNat, 0)
def BS.nil : BS := ⟨none, 0, []⟩
theorem nil_res {V : Av} {w : World} : BS.nil.res.p V w := fun i v hv => by simp [BS.nil, bv] at hv

theorem c_takeBytes (G : Res) (b : BS) (hok : b.ok) (n : UInt8) (l : List UInt8) (hb : b.xs = n :: l) (hbl : l.length ≤ 1099511627776) (most : Int) : Ctr Tryd.prog G 55 [b.v, vi most] [] [b.res]
    (retF fun v Φ' => ∃ k r : BS, v = .tuple #[k.v, r.v, vi (takeB n l most).2.2] ∧ k.ok ∧ r.ok ∧ k.xs = (takeB n l most).1 ∧ r.xs = (takeB n l most).2.1 ∧ Φ' = [k.res, r.res]) := by
  have hlen : b.xs.length = l.length + 1 := by rw [hb]; rfl
  have hn := lt8 n
  have hload : (bv b.xs)[0 * 1]? = some (v8 n) := by rw [hb]; rfl
  refine Ctr.intro Tryd.func55 (by kernel_rfl) rfl Tryd.ntmps55 rfl rfl rfl fun w X => ?_
  refine sw_seq ?_
  refine sw_region ?_
  refine r_assign (k := ?_)
  refine r_assign (k := ?_)
  refine r_assign (k := ?_)
  refine sl_nil ?_
  refine sp_then ?_
  refine sw_scope ?_
  refine sw_seq ?_
  refine sw_region ?_
  refine r_move (k := ?_)
  refine r_assign (k := ?_)
  refine sl_nil ?_
  refine sp_then ?_
  refine sw_seq ?_
  refine sw_label ?_
  refine sp_then ?_
  refine sw_seq ?_
  refine sw_block ?_
  refine sw_seq ?_
  refine sw_region ?_
  refine r_move (k := ?_)
  refine r_len (k := ?_)
  refine r_eql (k := ?_)
  refine r_move (k := ?_)
  refine r_re (t := 26) (v' := vb false) rfl (by simp [hb]; omega) ?_
  refine gd_yes (k := ?_)
  refine r_move (k := ?_)
  refine gd_yes (k := ?_)
  refine r_len (k := ?_)
  refine gd_yes (k := ?_)
  refine r_move (k := ?_)
  refine gd_yes (k := ?_)
  refine r_idx (k := ?_)
  refine gd_yes (k := ?_)
  refine r_load_mem1 (by exact tz rfl) (by exact rfl) (by first | exact .head _ | exact .tail _ (.head _) | exact .tail _ (.tail _ (.head _)) | exact .tail _ (.tail _ (.tail _ (.head _))) | exact .tail _ (.tail _ (.tail _ (.tail _ (.head _)))) | exact .tail _ (.tail _ (.tail _ (.tail _ (.tail _ (.head _))))) | exact .tail _ (.tail _ (.tail _ (.tail _ (.tail _ (.tail _ (.head _)))))) | exact .tail _ (.tail _ (.tail _ (.tail _ (.tail _ (.tail _ (.tail _ (.head _))))))) | exact .tail _ (.tail _ (.tail _ (.tail _ (.tail _ (.tail _ (.tail _ (.tail _ (.head _)))))))) | exact .tail _ (.tail _ (.tail _ (.tail _ (.tail _ (.tail _ (.tail _ (.tail _ (.tail _ (.head _))))))))) | exact .tail _ (.tail _ (.tail _ (.tail _ (.tail _ (.tail _ (.tail _ (.tail _ (.tail _ (.tail _ (.head _)))))))))) | exact .tail _ (.tail _ (.tail _ (.tail _ (.tail _ (.tail _ (.tail _ (.tail _ (.tail _ (.tail _ (.tail _ (.head _)))))))))))) hload (by exact rfl) ?_
  refine gd_yes (k := ?_)
  refine r_cv_8_i (k := ?_)
  refine gd_yes (k := ?_)
  refine r_leq (k := ?_)
  refine rd_pick_f (k := ?_)
  refine r_assign (k := ?_)
  refine sl_nil ?_
  refine sp_then ?_
  refine sw_cond rfl (fun h => ?_) (fun h => ?_)
  · have h := of_decide_eq_true h
    have e : takeB n l most = ([], n :: l, 20) := if_pos (by omega)
    rw [e]
    refine sw_region ?_
    refine r_assign (k := ?_)
    refine sl_nil ?_
    refine sp_block ?_
    refine sp_then ?_
    refine sw_seq ?_
    refine sw_region ?_
    refine r_move (k := ?_)
    refine r_move (k := ?_)
    refine r_move (k := ?_)
    refine r_assign (k := ?_)
    refine r_assign (k := ?_)
    refine r_assign (k := ?_)
    refine sl_nil ?_
    refine sp_then ?_
    refine sw_ret ?_
    refine sp_ng_ret ?_
    refine sp_of_sl (fun h => f_have (φ := BS.nil.res) (fun V w hw => nil_res) h) ?_
    refine sp_ret3 rfl rfl (.tmp rfl) (.tmp rfl) (.tmp rfl) rfl rfl ⟨rfl, BS.nil, b, rfl, ⟨Nat.le_refl _, Nat.zero_le _⟩, hok, rfl, hb, rfl⟩ (by simp) rfl (by simp)
  have h := of_decide_eq_false h
  have e1 : ¬ ((l.length : Int) + 1 ≤ (n.toNat : Int)) := by omega
  refine sw_seq ?_
  refine sw_region ?_
  refine r_move (k := ?_)
  refine r_idx (k := ?_)
  refine r_load_mem1 (by exact tz rfl) (by exact rfl) (by first | exact .head _ | exact .tail _ (.head _) | exact .tail _ (.tail _ (.head _)) | exact .tail _ (.tail _ (.tail _ (.head _))) | exact .tail _ (.tail _ (.tail _ (.tail _ (.head _)))) | exact .tail _ (.tail _ (.tail _ (.tail _ (.tail _ (.head _))))) | exact .tail _ (.tail _ (.tail _ (.tail _ (.tail _ (.tail _ (.head _)))))) | exact .tail _ (.tail _ (.tail _ (.tail _ (.tail _ (.tail _ (.tail _ (.head _))))))) | exact .tail _ (.tail _ (.tail _ (.tail _ (.tail _ (.tail _ (.tail _ (.tail _ (.head _)))))))) | exact .tail _ (.tail _ (.tail _ (.tail _ (.tail _ (.tail _ (.tail _ (.tail _ (.tail _ (.head _))))))))) | exact .tail _ (.tail _ (.tail _ (.tail _ (.tail _ (.tail _ (.tail _ (.tail _ (.tail _ (.tail _ (.head _)))))))))) | exact .tail _ (.tail _ (.tail _ (.tail _ (.tail _ (.tail _ (.tail _ (.tail _ (.tail _ (.tail _ (.tail _ (.head _)))))))))))) hload (by exact rfl) ?_
  refine r_cv_8_i (k := ?_)
  refine r_move (k := ?_)
  refine r_gtr (k := ?_)
  refine r_assign (k := ?_)
  refine sl_nil ?_
  refine sp_then ?_
  refine sw_cond rfl (fun h => ?_) (fun h => ?_)
  · have h := of_decide_eq_true h
    have e : takeB n l most = ([], n :: l, 21) := by unfold takeB; rw [if_neg e1, if_pos h]
    rw [e]
    refine sw_region ?_
    refine r_assign (k := ?_)
    refine sl_nil ?_
    refine sp_block ?_
    refine sp_then ?_
    refine sw_seq ?_
    refine sw_region ?_
    refine r_move (k := ?_)
    refine r_move (k := ?_)
    refine r_move (k := ?_)
    refine r_assign (k := ?_)
    refine r_assign (k := ?_)
    refine r_assign (k := ?_)
    refine sl_nil ?_
    refine sp_then ?_
    refine sw_ret ?_
    refine sp_ng_ret ?_
    refine sp_of_sl (fun h => f_have (φ := BS.nil.res) (fun V w hw => nil_res) h) ?_
    refine sp_ret3 rfl rfl (.tmp rfl) (.tmp rfl) (.tmp rfl) rfl rfl ⟨rfl, BS.nil, b, rfl, ⟨Nat.le_refl _, Nat.zero_le _⟩, hok, rfl, hb, rfl⟩ (by simp) rfl (by simp)
  have h := of_decide_eq_false h
  have e : takeB n l most = (l.take n.toNat, l.drop n.toNat, 0) := by unfold takeB; rw [if_neg e1, if_neg h]
  rw [e]
  refine sw_seq ?_
  refine sw_region ?_
  refine r_move (k := ?_)
  refine r_idx (k := ?_)
  refine r_load_mem1 (by exact tz rfl) (by exact rfl) (by first | exact .head _ | exact .tail _ (.head _) | exact .tail _ (.tail _ (.head _)) | exact .tail _ (.tail _ (.tail _ (.head _))) | exact .tail _ (.tail _ (.tail _ (.tail _ (.head _)))) | exact .tail _ (.tail _ (.tail _ (.tail _ (.tail _ (.head _))))) | exact .tail _ (.tail _ (.tail _ (.tail _ (.tail _ (.tail _ (.head _)))))) | exact .tail _ (.tail _ (.tail _ (.tail _ (.tail _ (.tail _ (.tail _ (.head _))))))) | exact .tail _ (.tail _ (.tail _ (.tail _ (.tail _ (.tail _ (.tail _ (.tail _ (.head _)))))))) | exact .tail _ (.tail _ (.tail _ (.tail _ (.tail _ (.tail _ (.tail _ (.tail _ (.tail _ (.head _))))))))) | exact .tail _ (.tail _ (.tail _ (.tail _ (.tail _ (.tail _ (.tail _ (.tail _ (.tail _ (.tail _ (.head _)))))))))) | exact .tail _ (.tail _ (.tail _ (.tail _ (.tail _ (.tail _ (.tail _ (.tail _ (.tail _ (.tail _ (.tail _ (.head _)))))))))))) hload (by exact rfl) ?_
  refine r_cv_8_i (k := ?_)
  refine r_add64 (k := ?_)
  refine r_assign (k := ?_)
  refine sl_nil ?_
  refine sp_then ?_
  refine sw_seq ?_
  refine w_re (t := 7) (v' := vi ((1 + n.toNat : Nat) : Int)) rfl (by simp) ?_
  refine sw_draw [] [b.res] [0, 1, 2, 3, 4, 5, 6, 7, 8, 9] mix (by kernel_rfl) rfl ?_
  refine ra_first 1 [] [0, 2, 3, 4, 5, 6, 7, 8, 9] (hq := by exact q_move) (k := ?_)
  refine ra_first 2 [] [0, 3, 4, 5, 6, 7, 8, 9] (hq := by exact q_move) (k := ?_)
  refine ra_first 3 [] [0, 4, 5, 6, 7, 8, 9] (hq := by exact q_cutB (s := b) (l := 1) (h := 1 + n.toNat) (by exact tl rfl) (by exact rfl) hok ⟨_, rfl⟩ ⟨_, rfl⟩ (by omega) (by omega)) (k := ?_)
  refine ra_first 5 [] [0, 4, 6, 7, 8, 9] (hq := by exact q_move) (k := ?_)
  refine ra_first 6 [] [0, 4, 7, 8, 9] (hq := by exact q_move) (k := ?_)
  refine ra_first 7 [] [0, 4, 8, 9] (hq := by exact q_cutB (s := b) (l := 1 + n.toNat) (h := b.xs.length) (by exact tl rfl) (by exact rfl) hok ⟨_, rfl⟩ rfl (by omega) (Nat.le_refl _)) (k := ?_)
  refine ra1 (i := 0) [4, 8, 9] (h := ?_)
  refine r_litB (xs := []) (bs := []) (by exact tl rfl) (by exact z5) (by exact rfl) (by exact rfl) (by exact rfl) (by exact rfl) (by exact rfl) fun v h1 h2 => ?_
  refine sl_nil ?_
  refine sp_nx (k := ?_)
  refine ra1 (i := 4) [8, 9] (h := ?_)
  refine f_have (φ := (cutB b 1 (1 + n.toNat)).res) (fun V w hw => cutB_res (hw _ (.head _)) hok (by omega) (by omega)) ?_
  refine r_appendB (xs := []) (s := cutB b 1 (1 + n.toNat)) (by exact tl rfl) (by exact z5) (by exact rfl) (by exact rfl) (by first | exact .head _ | exact .tail _ (.head _) | exact .tail _ (.tail _ (.head _)) | exact .tail _ (.tail _ (.tail _ (.head _))) | exact .tail _ (.tail _ (.tail _ (.tail _ (.head _)))) | exact .tail _ (.tail _ (.tail _ (.tail _ (.tail _ (.head _))))) | exact .tail _ (.tail _ (.tail _ (.tail _ (.tail _ (.tail _ (.head _)))))) | exact .tail _ (.tail _ (.tail _ (.tail _ (.tail _ (.tail _ (.tail _ (.head _))))))) | exact .tail _ (.tail _ (.tail _ (.tail _ (.tail _ (.tail _ (.tail _ (.tail _ (.head _)))))))) | exact .tail _ (.tail _ (.tail _ (.tail _ (.tail _ (.tail _ (.tail _ (.tail _ (.tail _ (.head _))))))))) | exact .tail _ (.tail _ (.tail _ (.tail _ (.tail _ (.tail _ (.tail _ (.tail _ (.tail _ (.tail _ (.head _)))))))))) | exact .tail _ (.tail _ (.tail _ (.tail _ (.tail _ (.tail _ (.tail _ (.tail _ (.tail _ (.tail _ (.tail _ (.head _)))))))))))) (by simp [cutB]; omega) (by exact rfl) fun v' h3 h4 => ?_
  refine sl_nil ?_
  refine sp_nx (k := ?_)
  refine ra_first 8 [] [9] (hq := by exact q_assign) (k := ?_)
  refine ra_first 9 [] [] (hq := by exact q_assign) (k := ?_)
  refine ra_done ?_
  refine sp_then ?_
  refine sw_exit ?_
  refine sp_block_exit ?_
  refine sp_then ?_
  refine sw_seq ?_
  refine sw_region ?_
  refine r_move (k := ?_)
  refine r_move (k := ?_)
  refine r_move (k := ?_)
  refine r_assign (k := ?_)
  refine r_assign (k := ?_)
  refine r_assign (k := ?_)
  refine sl_nil ?_
  refine sp_then ?_
  refine sw_ret ?_
  refine sp_ng_ret ?_
  refine sp_rowB fun k hk hkx ek => ?_
  subst ek
  refine sp_of_sl (fun h => f_have (φ := (cutB b (1 + n.toNat) b.xs.length).res) (fun V w hw => cutB_res (hw _ (.tail _ (.tail _ (.head _)))) hok (by omega) (Nat.le_refl _)) h) ?_
  refine sp_ret3 rfl rfl (.tmp rfl) (.tmp rfl) (.tmp rfl) rfl rfl ⟨rfl, k, cutB b (1 + n.toNat) b.xs.length, rfl, hk, cutB_ok hok (Nat.le_refl _), ?_, ?_, rfl⟩ (by simp) rfl (by simp)
  · rw [hkx]; simp [cutB, hb]
  · simp [cutB, hb]
    rw [Nat.add_comm 1, List.drop_succ_cons, List.take_of_length_le (by simp)]

def idxf (p : UInt8 → Bool) : List UInt8 → Int → Int
  | [], _ => -1
  | x :: l, i => bif p x then i else idxf p l (i + 1)
theorem idxf_any (p : UInt8 → Bool) : ∀ (l : List UInt8) (i : Int), 0 ≤ i → decide (0 ≤ idxf p l i) = l.any p
  | [], _, _ => rfl
  | x :: l, i, h => by
    rw [idxf, List.any_cons]
    cases p x
    · simpa using idxf_any p l (i + 1) (by omega)
    · simpa using h

theorem c_indexFunc (G : Res) (s : BS) (hok : s.ok) (p : UInt8 → Bool) {fid : FuncId} (hf : ∀ x, Ctr Tryd.prog G fid [v8 x] [] [] (ret1 (vb (p x)))) : Ctr Tryd.prog G 114 [s.v, .func (.func fid) #[] #[]] [] [s.res] (ret1 (vi (idxf p s.xs 0))) := by
  have hn' : s.xs.length ≤ 9223372036854775807 := Nat.le_trans hok.1 hok.2
  refine Ctr.intro Tryd.func114 (by kernel_rfl) rfl Tryd.ntmps114 rfl rfl rfl fun w X => ?_
  refine sw_seq ?_
  refine sw_region ?_
  refine r_assign (k := ?_)
  refine sl_nil ?_
  refine sp_then ?_
  refine sw_seq ?_
  refine sw_seq ?_
  refine sw_region ?_
  refine r_move (k := ?_)
  refine r_len (k := ?_)
  refine r_move (k := ?_)
  refine sl_nil ?_
  refine sp_then ?_
  refine sw_block ?_
  refine sw_loop (ι := { i : Nat // i ≤ s.xs.length ∧ idxf p (s.xs.drop i) i = idxf p s.xs 0 }) (fun i => [(0, s.v), (1, .func (.func fid) #[] #[]), (7, vi (s.xs.length : Int)), (8, vi (i.1 : Int))]) (fun _ => []) (fun _ => [s.res]) (fun _ => []) (fun i => s.xs.length - i.1) ⟨0, by simp⟩ ?_ fun i => ?_
  · exact Ent.mk' (by repeat' (first | trivial | exact rfl | apply And.intro)) (by repeat' (first | trivial | exact .head _ | exact .tail _ (.head _) | exact .tail _ (.tail _ (.head _)) | exact .tail _ (.tail _ (.tail _ (.head _))) | exact .tail _ (.tail _ (.tail _ (.tail _ (.head _)))) | exact .tail _ (.tail _ (.tail _ (.tail _ (.tail _ (.head _))))) | exact .tail _ (.tail _ (.tail _ (.tail _ (.tail _ (.tail _ (.head _)))))) | exact .tail _ (.tail _ (.tail _ (.tail _ (.tail _ (.tail _ (.tail _ (.head _))))))) | exact .tail _ (.tail _ (.tail _ (.tail _ (.tail _ (.tail _ (.tail _ (.tail _ (.head _)))))))) | exact .tail _ (.tail _ (.tail _ (.tail _ (.tail _ (.tail _ (.tail _ (.tail _ (.tail _ (.head _))))))))) | exact .tail _ (.tail _ (.tail _ (.tail _ (.tail _ (.tail _ (.tail _ (.tail _ (.tail _ (.tail _ (.head _)))))))))) | exact .tail _ (.tail _ (.tail _ (.tail _ (.tail _ (.tail _ (.tail _ (.tail _ (.tail _ (.tail _ (.tail _ (.head _))))))))))) | apply And.intro))
  obtain ⟨i, hi, hr⟩ := i
  dsimp only
  refine sw_seq ?_
  refine sw_region ?_
  refine r_lss (k := ?_)
  refine sl_nil ?_
  refine sp_then ?_
  refine sw_seq ?_
  refine sw_cond rfl (fun h => ?_) (fun h => ?_)
  · have h := of_decide_eq_true h
    have hi' : i < s.xs.length := by omega
    rw [drop_cons _ i hi', idxf] at hr
    refine sw_skip ?_
    refine sp_then ?_
    refine sw_seq ?_
    refine sw_block ?_
    refine sw_seq ?_
    refine sw_region ?_
    refine r_move (k := ?_)
    refine r_assign (k := ?_)
    refine sl_nil ?_
    refine sp_then ?_
    refine sw_seq ?_
    refine sw_region ?_
    refine r_move (k := ?_)
    refine r_move (k := ?_)
    refine r_move (k := ?_)
    refine r_idx (k := ?_)
    refine r_load_mem1 (v := v8 s.xs[i]) (by exact tz rfl) (by exact rfl) (by first | exact .head _ | exact .tail _ (.head _) | exact .tail _ (.tail _ (.head _)) | exact .tail _ (.tail _ (.tail _ (.head _))) | exact .tail _ (.tail _ (.tail _ (.tail _ (.head _)))) | exact .tail _ (.tail _ (.tail _ (.tail _ (.tail _ (.head _))))) | exact .tail _ (.tail _ (.tail _ (.tail _ (.tail _ (.tail _ (.head _)))))) | exact .tail _ (.tail _ (.tail _ (.tail _ (.tail _ (.tail _ (.tail _ (.head _))))))) | exact .tail _ (.tail _ (.tail _ (.tail _ (.tail _ (.tail _ (.tail _ (.tail _ (.head _)))))))) | exact .tail _ (.tail _ (.tail _ (.tail _ (.tail _ (.tail _ (.tail _ (.tail _ (.tail _ (.head _))))))))) | exact .tail _ (.tail _ (.tail _ (.tail _ (.tail _ (.tail _ (.tail _ (.tail _ (.tail _ (.tail _ (.head _)))))))))) | exact .tail _ (.tail _ (.tail _ (.tail _ (.tail _ (.tail _ (.tail _ (.tail _ (.tail _ (.tail _ (.tail _ (.head _)))))))))))) (by rw [Nat.mul_one]; exact bv_get _ _ hi') (by exact rfl) ?_
    refine r_call1 (cap := []) (hf s.xs[i]) (by exact rfl) (by exact rfl) (by exact rfl) (by simp) (by exact rfl) ?_
    refine sl_nil ?_
    refine sp_then ?_
    cases hp : p s.xs[i]
    · rw [hp] at hr
      refine swd_f (h := ?_)
      refine sw_skip ?_
      refine sp_block ?_
      refine sp_then ?_
      refine sw_region ?_
      refine r_add64 (k := ?_)
      refine r_move (k := ?_)
      refine sl_nil ?_
      refine sp_loop (ι := { i : Nat // i ≤ s.xs.length ∧ idxf p (s.xs.drop i) i = idxf p s.xs 0 }) ⟨i + 1, by omega, by simpa using hr⟩ ?_ ?_
      · dsimp only; omega
      · exact Ent.mk' (by repeat' (first | trivial | exact rfl | apply And.intro)) (by repeat' (first | trivial | exact .head _ | exact .tail _ (.head _) | exact .tail _ (.tail _ (.head _)) | exact .tail _ (.tail _ (.tail _ (.head _))) | exact .tail _ (.tail _ (.tail _ (.tail _ (.head _)))) | exact .tail _ (.tail _ (.tail _ (.tail _ (.tail _ (.head _))))) | exact .tail _ (.tail _ (.tail _ (.tail _ (.tail _ (.tail _ (.head _)))))) | exact .tail _ (.tail _ (.tail _ (.tail _ (.tail _ (.tail _ (.tail _ (.head _))))))) | exact .tail _ (.tail _ (.tail _ (.tail _ (.tail _ (.tail _ (.tail _ (.tail _ (.head _)))))))) | exact .tail _ (.tail _ (.tail _ (.tail _ (.tail _ (.tail _ (.tail _ (.tail _ (.tail _ (.head _))))))))) | exact .tail _ (.tail _ (.tail _ (.tail _ (.tail _ (.tail _ (.tail _ (.tail _ (.tail _ (.tail _ (.head _)))))))))) | exact .tail _ (.tail _ (.tail _ (.tail _ (.tail _ (.tail _ (.tail _ (.tail _ (.tail _ (.tail _ (.tail _ (.head _))))))))))) | apply And.intro))
    · rw [hp] at hr
      have hr : (i : Int) = idxf p s.xs 0 := hr
      refine swd_t (h := ?_)
      refine sw_seq ?_
      refine sw_region ?_
      refine r_move (k := ?_)
      refine r_assign (k := ?_)
      refine sl_nil ?_
      refine sp_then ?_
      refine sw_ret ?_
      refine sp_block_ret ?_
      refine sp_then_ret ?_
      refine sp_loop_ret ?_
      refine sp_block_ret ?_
      refine sp_then_ret ?_
      refine sp_retv rfl rfl (.tmp rfl) rfl rfl ⟨by rw [hr], rfl, rfl⟩ (by simp) rfl (by simp)
  · have h := of_decide_eq_false h
    obtain rfl : i = s.xs.length := by omega
    rw [List.drop_length] at hr
    have hr : (-1 : Int) = idxf p s.xs 0 := hr
    refine sw_exit ?_
    refine sp_then_exit ?_
    refine sp_loop_exit ?_
    refine sp_block_exit ?_
    refine sp_then ?_
    refine sw_seq ?_
    refine sw_region ?_
    refine r_assign (k := ?_)
    refine sl_nil ?_
    refine sp_then ?_
    refine sw_ret ?_
    refine sp_retv rfl rfl (.tmp rfl) rfl rfl ⟨by rw [hr], rfl, rfl⟩ (by simp) rfl (by simp)

theorem c_containsFunc (G : Res) (s : BS) (hok : s.ok) (p : UInt8 → Bool) {fid : FuncId} (hf : ∀ x, Ctr Tryd.prog G fid [v8 x] [] [] (ret1 (vb (p x)))) : Ctr Tryd.prog G 91 [s.v, .func (.func fid) #[] #[]] [] [s.res] (ret1 (vb (s.xs.any p))) := by
  refine Ctr.intro Tryd.func91 (by kernel_rfl) rfl Tryd.ntmps91 rfl rfl rfl fun w X => ?_
  refine sw_seq ?_
  refine sw_region ?_
  refine r_assign (k := ?_)
  refine sl_nil ?_
  refine sp_then ?_
  refine sw_seq ?_
  refine sw_region ?_
  refine r_move (k := ?_)
  refine r_move (k := ?_)
  refine r_call1 (c_indexFunc G s hok p hf) (by exact rfl) (by exact rfl) (by exact rfl) (by simp) (by exact rfl) ?_
  refine r_geq (k := ?_)
  refine r_assign (k := ?_)
  refine sl_nil ?_
  refine sp_then ?_
  refine sw_ret ?_
  refine sp_retv rfl rfl (.tmp rfl) rfl rfl ⟨by rw [← idxf_any p s.xs 0 (by omega)], rfl, rfl⟩ (by simp) rfl (by simp)

def nonzero (x : UInt8) : Bool := decide ((x.toNat : Int) ≠ 0)
theorem c_clean1 (G : Res) (x : UInt8) : Ctr Tryd.prog G 92 [v8 x] [] [] (ret1 (vb (nonzero x))) := by
  refine Ctr.intro Tryd.func92 (by kernel_rfl) rfl Tryd.ntmps92 rfl rfl rfl fun w X => ?_
  refine sw_seq ?_
  refine sw_region ?_
  refine r_assign (k := ?_)
  refine sl_nil ?_
  refine sp_then ?_
  refine sw_seq ?_
  refine sw_region ?_
  refine r_move (k := ?_)
  refine r_neq (k := ?_)
  refine r_assign (k := ?_)
  refine sl_nil ?_
  refine sp_then ?_
  refine sw_ret ?_
  refine sp_retv rfl rfl (.tmp rfl) rfl rfl ⟨rfl, rfl, rfl⟩ (by simp) rfl (by simp)

theorem c_clean (G : Res) (s : BS) (hok : s.ok) : Ctr Tryd.prog G 56 [s.v] [] [s.res] (ret1 (vb (!s.xs.any nonzero))) := by
  refine Ctr.intro Tryd.func56 (by kernel_rfl) rfl Tryd.ntmps56 rfl rfl rfl fun w X => ?_
  refine sw_seq ?_
  refine sw_region ?_
  refine r_assign (k := ?_)
  refine sl_nil ?_
  refine sp_then ?_
  refine sw_seq ?_
  refine sw_region ?_
  refine r_move (k := ?_)
  refine r_call1 (c_containsFunc G s hok nonzero (c_clean1 G)) (by exact rfl) (by exact rfl) (by exact rfl) (by simp) (by exact rfl) ?_
  refine r_not (k := ?_)
  refine r_assign (k := ?_)
  refine sl_nil ?_
  refine sp_then ?_
  refine sw_ret ?_
  refine sp_retv rfl rfl (.tmp rfl) rfl rfl ⟨rfl, rfl, rfl⟩ (by simp) rfl (by simp)
end Go.Proofs.YtjahiohlekdhoaaDoor
