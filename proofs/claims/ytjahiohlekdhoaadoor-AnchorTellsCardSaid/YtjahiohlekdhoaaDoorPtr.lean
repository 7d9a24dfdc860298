/-
  The walks of package ptr.
-/
import Derived.Test.YtjahiohlekdhoaaDoorE14
import Derived.Test.YtjahiohlekdhoaaDoorPack
import Derived.DeepKeys
namespace Go.Proofs.YtjahiohlekdhoaaDoor
open Go
set_option maxHeartbeats 4000000
set_option maxRecDepth 4000
attribute [local irreducible] SW SL SP RA Then FQ IQ LoopQ RQ AQ NX CutQ Exit.noGoto

/-- A pointer. -/
structure PtrV where
  kind : UInt8
  a0 : UInt16
  a1 : UInt16
  birth : UInt32
  sum : UInt64
  deriving DecidableEq
def PtrV.cs (x : PtrV) : List Value := [v8 x.kind, v16 x.a0, v16 x.a1, v32 x.birth, v64 x.sum]
def PtrV.v (x : PtrV) : Value := .agg x.cs.toArray
def PtrV.none : PtrV := ⟨0, 0, 0, 0, 0⟩

theorem wf8 (x : UInt8) : (Lit.int .u8 (x.toNat : Int)).wf = true := by have := lt8 x; simp [Lit.wf, IntKind.min, IntKind.max, IntKind.signed, IntKind.bits]; omega
theorem wf16 (x : UInt16) : (Lit.int .u16 (x.toNat : Int)).wf = true := by have := lt16 x; simp [Lit.wf, IntKind.min, IntKind.max, IntKind.signed, IntKind.bits]; omega
theorem wf32 (x : UInt32) : (Lit.int .u32 (x.toNat : Int)).wf = true := by have := lt32 x; simp [Lit.wf, IntKind.min, IntKind.max, IntKind.signed, IntKind.bits]; omega
theorem wf64 (x : UInt64) : (Lit.int .u64 (x.toNat : Int)).wf = true := by have := lt64 x; simp [Lit.wf, IntKind.min, IntKind.max, IntKind.signed, IntKind.bits]; omega

def PtrV.lits (x : PtrV) : List Lit := [.int .u8 x.kind.toNat, .int .u16 x.a0.toNat, .int .u16 x.a1.toNat, .int .u32 x.birth.toNat, .int .u64 x.sum.toNat]

theorem ptr_keys (x : PtrV) : Tryd.prog.keyLits 4 27 x.cs = some x.lits := by
  have u27 := Tryd.underlying27
  have u24 := Tryd.underlying24
  have u5 := Tryd.underlying5
  have u22 := Tryd.underlying22
  have u23 := Tryd.underlying23
  have u25 := Tryd.underlying25
  have c24 : Tryd.prog.cellsOf 24 = 2 := by kernel_rfl
  have c27 : Tryd.prog.cellsOf 27 = 5 := by kernel_rfl
  have c5 : Tryd.prog.cellsOf 5 = 1 := by kernel_rfl
  have c22 : Tryd.prog.cellsOf 22 = 1 := by kernel_rfl
  have c23 : Tryd.prog.cellsOf 23 = 1 := by kernel_rfl
  have c25 : Tryd.prog.cellsOf 25 = 1 := by kernel_rfl
  simp [Program.keyLits, u27, u24, u5, u22, u23, u25, c24, c27, c5, c22, c23, c25, PtrV.cs, PtrV.lits, wf8, wf16, wf32, wf64, List.mapM_cons, List.range_succ]

theorem nat8 {x y : UInt8} : (x.toNat : Int) = (y.toNat : Int) ↔ x = y := by rw [Int.natCast_inj]; exact UInt8.toNat_inj
theorem nat16 {x y : UInt16} : (x.toNat : Int) = (y.toNat : Int) ↔ x = y := by rw [Int.natCast_inj]; exact UInt16.toNat_inj
theorem nat32 {x y : UInt32} : (x.toNat : Int) = (y.toNat : Int) ↔ x = y := by rw [Int.natCast_inj]; exact UInt32.toNat_inj
theorem nat64 {x y : UInt64} : (x.toNat : Int) = (y.toNat : Int) ↔ x = y := by rw [Int.natCast_inj]; exact UInt64.toNat_inj

theorem ptr_eq (x y : PtrV) (w : World) : (Op.equalIn 10000 27 (.agg x.cs.toArray) (.agg y.cs.toArray)).run Tryd.prog w = .ok (decide (x = y)) w := by
  obtain ⟨r, h1, h2⟩ := run_equalIn_deep (P := Tryd.prog) 9996 4 27 (by kernel_rfl) w 4 4 (.agg x.cs.toArray) (.agg y.cs.toArray) x.lits y.lits (by kernel_rfl) (by kernel_rfl) (by simpa [Value.cells] using ptr_keys x) (by simpa [Value.cells] using ptr_keys y)
  rw [show (10000 : Nat) = 9996 + 4 from rfl, h1]
  have e : x.lits = y.lits ↔ x = y := by
    constructor
    · intro h
      cases x; cases y
      simp only [PtrV.lits, List.cons.injEq, Lit.int.injEq, true_and, and_true, nat8, nat16, nat32, nat64] at h
      obtain ⟨rfl, rfl, rfl, rfl, rfl⟩ := h
      rfl
    · rintro rfl; rfl
  congr 1
  rw [Bool.eq_iff_iff, h2, e]
  simp

theorem c_none (G : Res) (x : PtrV) : Ctr Tryd.prog G 50 [x.v] [] [] (ret1 (vb (decide (x = PtrV.none)))) := by
  refine Ctr.intro Tryd.func50 (by kernel_rfl) rfl Tryd.ntmps50 rfl rfl rfl fun w X => ?_
  refine sw_seq ?_
  refine sw_region ?_
  refine r_box (k := fun bx => ?_)
  refine r_assign (k := ?_)
  refine sl_nil ?_
  refine sp_then ?_
  refine sw_seq ?_
  refine sw_region ?_
  refine r_load_all (k := ?_)
  refine r_buildP (parts := []) PtrV.none.cs (by exact rfl) (by kernel_rfl) (by exact rfl) ?_
  refine r_eqagg (xs := x.cs.toArray) (ys := PtrV.none.cs.toArray) (by exact rfl) (by exact rfl) (by kernel_rfl) (ptr_eq x PtrV.none) (by exact rfl) ?_
  refine r_assign (k := ?_)
  refine sl_nil ?_
  refine sp_then ?_
  refine sw_ret ?_
  refine sp_retv rfl rfl (.tmp rfl) rfl rfl ⟨rfl, rfl, rfl⟩ (by simp) rfl (by simp)

def PtrV.isMeta (x : PtrV) : Bool := decide ((x.kind.toNat : Int) = 1) || decide ((x.kind.toNat : Int) = 2)
theorem c_meta (G : Res) (x : PtrV) : Ctr Tryd.prog G 51 [x.v] [] [] (ret1 (vb x.isMeta)) := by
  refine Ctr.intro Tryd.func51 (by kernel_rfl) rfl Tryd.ntmps51 rfl rfl rfl fun w X => ?_
  refine sw_seq ?_
  refine sw_region ?_
  refine r_box (k := fun bx => ?_)
  refine r_assign (k := ?_)
  refine sl_nil ?_
  refine sp_then ?_
  refine sw_seq ?_
  refine sw_region ?_
  refine r_fieldAddr (k := ?_)
  refine r_load_one (k := ?_)
  refine r_eql (k := ?_)
  refine r_move (k := ?_)
  refine g_part (h1 := fun hg => ?_) (h2 := fun hg => ?_)
  focus
    refine gd_no (k := ?_)
    refine gd_no (k := ?_)
    refine gd_no (k := ?_)
    refine rd_pick_t (k := ?_)
    refine r_assign (k := ?_)
    refine sl_nil ?_
    refine sp_then ?_
    refine sw_ret ?_
  rotate_left 1
  focus
    refine gd_yes (k := ?_)
    refine r_fieldAddr (k := ?_)
    refine gd_yes (k := ?_)
    refine r_load_one (k := ?_)
    refine gd_yes (k := ?_)
    refine r_eql (k := ?_)
    refine rd_pick_f (k := ?_)
    refine r_assign (k := ?_)
    refine sl_nil ?_
    refine sp_then ?_
    refine sw_ret ?_
  rotate_left 1
  all_goals refine sp_retv rfl rfl (.tmp rfl) rfl rfl ⟨?_, rfl, rfl⟩ (by simp) rfl (by simp)
  all_goals simp_all [PtrV.isMeta]

def iElt (n : Int) (vs : List Value) : Res := Res.pure (vs = [vi n])
def PtrV.addrs (x : PtrV) : List Int := if x.isMeta then [(x.a0.toNat : Int), (x.a1.toNat : Int)] else if (x.kind.toNat : Int) = 3 then [(x.a0.toNat : Int)] else []

theorem c_addresses (G : Res) (x : PtrV) : Ctr Tryd.prog G 88 [x.v] [] [] (retF fun v Φ' => ∃ b, v = .func (.func 112) #[] #[.pointer (some ⟨b, 0, none⟩)] ∧ Φ' = [Res.mem (some ⟨b, 0, none⟩) x.cs]) := by
  refine Ctr.intro Tryd.func88 (by kernel_rfl) rfl Tryd.ntmps88 rfl rfl rfl fun w X => ?_
  refine sw_seq ?_
  refine sw_region ?_
  refine r_box (k := fun bx => ?_)
  refine r_assign (k := ?_)
  refine sl_nil ?_
  refine sp_then ?_
  refine sw_seq ?_
  refine sw_region ?_
  refine r_clos (k := ?_)
  refine r_assign (k := ?_)
  refine sl_nil ?_
  refine sp_then ?_
  refine sw_ret ?_
  refine sp_freeze ?_
  refine sp_retv rfl rfl (.tmp rfl) rfl rfl ⟨rfl, _, rfl, rfl⟩ (by simp) rfl (by simp)

theorem i_addresses (G : Res) (b : Nat) (x : PtrV) : ICtr Tryd.prog G 112 [.pointer (some ⟨b, 0, none⟩)] [] [Res.mem (some ⟨b, 0, none⟩) x.cs] iElt x.addrs := by
  refine ICtr.intro Tryd.func112 (by kernel_rfl) rfl Tryd.ntmps112 rfl rfl (fun _ => rfl) fun σ J Y go A l s0 w' X M hgo hA hY => ?_
  have h0 := At.start hgo hA
  refine sw_seq ?_
  refine sw_seq ?_
  refine sw_region ?_
  refine r_load_fr (k := ?_)
  refine r_call1 (c_meta G x) (by exact rfl) (by exact rfl) (by exact rfl) (by simp) (by exact rfl) ?_
  refine r_not (k := ?_)
  refine r_move (k := ?_)
  refine g_part (h1 := fun hg => ?_) (h2 := fun hg => ?_)
  focus
    refine gd_yes (k := ?_)
    refine r_fieldAddr (k := ?_)
    refine gd_yes (k := ?_)
    refine r_load_fr1 (k := ?_)
    refine gd_yes (k := ?_)
    refine r_neq (k := ?_)
    refine rd_pick_t (k := ?_)
    refine r_move (k := ?_)
    refine g_part (h1 := fun hg => ?_) (h2 := fun hg => ?_)
    focus
      refine gd_no (k := ?_)
      refine gd_no (k := ?_)
      refine gd_no (k := ?_)
      refine gd_no (k := ?_)
      refine gd_no (k := ?_)
      refine gd_no (k := ?_)
      refine gd_no (k := ?_)
      refine rd_pick_t (k := ?_)
      refine sl_nil ?_
      refine sp_then ?_
      refine swd_t (h := ?_)
      refine sw_ret ?_
      refine sp_then_ret ?_
    rotate_left 1
    focus
      refine gd_yes (k := ?_)
      refine r_move (k := ?_)
      refine gd_yes (k := ?_)
      refine r_fieldAddr (k := ?_)
      refine gd_yes (k := ?_)
      refine r_idx_arr (k := ?_)
      refine gd_yes (k := ?_)
      refine r_load_fr1 (k := ?_)
      refine gd_yes (k := ?_)
      refine r_cv_16_i (k := ?_)
      refine gd_yes (k := ?_)
    rotate_left 1
  rotate_left 2
  focus
    refine gd_no (k := ?_)
    refine gd_no (k := ?_)
    refine gd_no (k := ?_)
    refine rd_pick_f (k := ?_)
    refine r_move (k := ?_)
    refine gd_yes (k := ?_)
    refine r_move (k := ?_)
    refine gd_yes (k := ?_)
    refine r_fieldAddr (k := ?_)
    refine gd_yes (k := ?_)
    refine r_idx_arr (k := ?_)
    refine gd_yes (k := ?_)
    refine r_load_fr1 (k := ?_)
    refine gd_yes (k := ?_)
    refine r_cv_16_i (k := ?_)
    refine gd_yes (k := ?_)
  rotate_left 1
  · have e : x.addrs = [] := by simp_all [PtrV.addrs]
    rw [e] at h0
    refine sp_iret rfl rfl rfl ⟨by rw [e]; exact h0.done, rfl, rfl⟩ (by simp) rfl (by simp) rfl
  · rename_i hm
    have hm : x.isMeta = false := by simpa using hm
    have e : x.addrs = [(x.a0.toNat : Int)] := by simp_all [PtrV.addrs]
    rw [e] at h0
    refine r_yield hY hgo h0.give (by exact rfl) (by exact rfl) (el := (x.a0.toNat : Int)) (fun _ _ _ => rfl) (by exact rfl) ?_
    refine gd_yes (k := ?_)
    refine r_not (k := ?_)
    refine rd_pick_f (k := ?_)
    refine sl_nil ?_
    refine sp_then ?_
    cases hg : go (Y s0 (x.a0.toNat : Int))
    · refine swd_t (h := ?_)
      refine sw_ret ?_
      refine sp_then_ret ?_
      refine sp_iret rfl rfl rfl ⟨by rw [e]; exact h0.stop hg, rfl, rfl⟩ (by simp) rfl (by simp) rfl
    · have h1 := h0.next hg
      refine swd_f (h := ?_)
      refine sw_skip ?_
      refine sp_then ?_
      refine sw_seq ?_
      refine sw_region ?_
      refine r_load_fr (k := ?_)
      refine r_call1 (c_meta G x) (by exact rfl) (by exact rfl) (by exact rfl) (by simp) (by exact rfl) ?_
      rw [hm]
      refine sl_nil ?_
      refine sp_then ?_
      refine swd_f (h := ?_)
      refine sw_skip ?_
      refine sp_inorm rfl rfl rfl ⟨by rw [e]; exact h1.done, rfl, rfl⟩ (by simp) rfl (by simp) rfl
  · have hm : x.isMeta = true := by simpa using hg
    have e : x.addrs = [(x.a0.toNat : Int), (x.a1.toNat : Int)] := by simp_all [PtrV.addrs]
    rw [e] at h0
    refine r_yield hY hgo h0.give (by exact rfl) (by exact rfl) (el := (x.a0.toNat : Int)) (fun _ _ _ => rfl) (by exact rfl) ?_
    refine gd_yes (k := ?_)
    refine r_not (k := ?_)
    refine rd_pick_f (k := ?_)
    refine sl_nil ?_
    refine sp_then ?_
    cases hg : go (Y s0 (x.a0.toNat : Int))
    · refine swd_t (h := ?_)
      refine sw_ret ?_
      refine sp_then_ret ?_
      refine sp_iret rfl rfl rfl ⟨by rw [e]; exact h0.stop hg, rfl, rfl⟩ (by simp) rfl (by simp) rfl
    · have h1 := h0.next hg
      refine swd_f (h := ?_)
      refine sw_skip ?_
      refine sp_then ?_
      refine sw_seq ?_
      refine sw_region ?_
      refine r_load_fr (k := ?_)
      refine r_call1 (c_meta G x) (by exact rfl) (by exact rfl) (by exact rfl) (by simp) (by exact rfl) ?_
      rw [hm]
      refine sl_nil ?_
      refine sp_then ?_
      refine swd_t (h := ?_)
      refine sw_region ?_
      refine r_move (k := ?_)
      refine r_fieldAddr (k := ?_)
      refine r_idx_arr (k := ?_)
      refine r_load_fr1 (k := ?_)
      refine r_cv_16_i (k := ?_)
      refine r_yield hY h1.go' h1.give (by exact rfl) (by exact rfl) (el := (x.a1.toNat : Int)) (fun _ _ _ => rfl) (by exact rfl) ?_
      refine sl_nil ?_
      cases hg : go (Y (Y s0 (x.a0.toNat : Int)) (x.a1.toNat : Int))
      · refine sp_inorm rfl rfl rfl ⟨by rw [e]; exact h1.stop hg, rfl, rfl⟩ (by simp) rfl (by simp) rfl
      · refine sp_inorm rfl rfl rfl ⟨by rw [e]; exact (h1.next hg).done, rfl, rfl⟩ (by simp) rfl (by simp) rfl

/-- The widths of a pointer's numbers. -/
def GW : Res := Res.mem (some ⟨0, 0, none⟩) [vi 1, vi 2, vi 2, vi 4, vi 8]

def PtrV.pre (x : PtrV) : Bool := (decide (1 ≤ (x.birth.toNat : Int)) && decide ((x.birth.toNat : Int) ≤ 1073741824)) && ((x.isMeta && decide ((x.a0.toNat : Int) ≠ (x.a1.toNat : Int))) || (decide ((x.kind.toNat : Int) = 3) && decide ((x.a1.toNat : Int) = 0)))
def PtrV.right (x : PtrV) (size : Int) : Bool := x.pre && x.addrs.all fun at' => decide (4 ≤ at') && decide (at' < size)

def looks (size : Int) (s : Bool × Bool) (at' : Int) : Bool × Bool := (s.1 && decide (4 ≤ at') && decide (at' < size), !(s.1 && decide (4 ≤ at') && decide (at' < size)))
theorem c_pright (G : Res) (x : PtrV) (size : Int) : Ctr Tryd.prog G 52 [x.v, vi size] [] [] (ret1 (vb (x.right size))) := by
  refine Ctr.intro Tryd.func52 (by kernel_rfl) rfl Tryd.ntmps52 rfl rfl rfl fun w X => ?_
  refine sw_seq ?_
  refine sw_region ?_
  refine r_box (by exact rfl) (by exact rfl) (by exact rfl) fun p => ?_
  refine r_box (by exact rfl) (by exact rfl) (by exact rfl) fun bx => ?_
  refine r_alloc (by exact z4) (by exact rfl) (by exact rfl) fun b => ?_
  refine sl_nil ?_
  refine sp_then ?_
  refine sw_scope ?_
  refine sw_cut [(2, .pointer (some ⟨p, 0, none⟩)), (3, .pointer (some ⟨bx, 0, none⟩)), (4, .pointer (some ⟨b, 0, none⟩))] [.box b [vb x.pre] 4, .box bx [vi size] 3, .box p x.cs 27] [] [] ?_ ?_
  · refine sw_region ?_
    refine r_fieldAddr (k := ?_)
    refine r_load_one (k := ?_)
    refine r_geq (k := ?_)
    refine r_move (k := ?_)
    refine g_part (h1 := fun hg => ?_) (h2 := fun hg => ?_)
    focus
      refine gd_yes (k := ?_)
      refine r_fieldAddr (k := ?_)
      refine gd_yes (k := ?_)
      refine r_load_one (k := ?_)
      refine gd_yes (k := ?_)
      refine r_leq (k := ?_)
      refine rd_pick_t (k := ?_)
      refine r_move (k := ?_)
      refine g_part (h1 := fun hg => ?_) (h2 := fun hg => ?_)
      focus
        refine gd_yes (k := ?_)
        refine r_load_all (k := ?_)
        refine gd_yes (k := ?_)
      rotate_left 1
      focus
        refine gd_no (k := ?_)
        refine gd_no (k := ?_)
        refine gd_no (k := ?_)
        refine gd_un (k := ?_)
        refine gd_un (k := ?_)
        refine gd_un (k := ?_)
        refine gd_un (k := ?_)
        refine gd_un (k := ?_)
        refine gd_un (k := ?_)
        refine gd_un (k := ?_)
        refine gd_no (k := ?_)
        refine gd_no (k := ?_)
        refine gd_un (k := ?_)
        refine gd_un (k := ?_)
        refine gd_un (k := ?_)
        refine gd_un (k := ?_)
        refine gd_un (k := ?_)
        refine gd_un (k := ?_)
        refine gd_un (k := ?_)
        refine gd_un (k := ?_)
        refine gd_un (k := ?_)
        refine gd_no (k := ?_)
        refine rd_pick_f (k := ?_)
        refine r_store_all (k := ?_)
        refine sl_nil ?_
      rotate_left 1
    rotate_left 2
    focus
      refine gd_no (k := ?_)
      refine gd_no (k := ?_)
      refine gd_no (k := ?_)
      refine rd_pick_f (k := ?_)
      refine r_move (k := ?_)
      refine gd_no (k := ?_)
      refine gd_no (k := ?_)
      refine gd_no (k := ?_)
      refine gd_un (k := ?_)
      refine gd_un (k := ?_)
      refine gd_un (k := ?_)
      refine gd_un (k := ?_)
      refine gd_un (k := ?_)
      refine gd_un (k := ?_)
      refine gd_un (k := ?_)
      refine gd_no (k := ?_)
      refine gd_no (k := ?_)
      refine gd_un (k := ?_)
      refine gd_un (k := ?_)
      refine gd_un (k := ?_)
      refine gd_un (k := ?_)
      refine gd_un (k := ?_)
      refine gd_un (k := ?_)
      refine gd_un (k := ?_)
      refine gd_un (k := ?_)
      refine gd_un (k := ?_)
      refine gd_no (k := ?_)
      refine rd_pick_f (k := ?_)
      refine r_store_all (k := ?_)
      refine sl_nil ?_
    rotate_left 1
    any_goals refine r_call1 (c_meta G x) (by exact rfl) (by exact rfl) (by exact rfl) (by simp) (by exact rfl) ?_
    focus
      refine gd_yes (k := ?_)
      refine r_move (k := ?_)
      refine g_part (h1 := fun hg => ?_) (h2 := fun hg => ?_)
      focus
        refine gd_yes (k := ?_)
        refine r_fieldAddr (k := ?_)
        refine gd_yes (k := ?_)
        refine r_idx_arr (k := ?_)
        refine gd_yes (k := ?_)
        refine r_load_one (k := ?_)
        refine gd_yes (k := ?_)
        refine r_fieldAddr (k := ?_)
        refine gd_yes (k := ?_)
        refine r_idx_arr (k := ?_)
        refine gd_yes (k := ?_)
        refine r_load_one (k := ?_)
        refine gd_yes (k := ?_)
        refine r_neq (k := ?_)
        refine gd_yes (k := ?_)
        refine rd_pick_t (k := ?_)
        refine gd_yes (k := ?_)
        refine r_move (k := ?_)
        refine g_part (h1 := fun hg => ?_) (h2 := fun hg => ?_)
        focus
          refine gd_no (k := ?_)
          refine gd_no (k := ?_)
          refine gd_no (k := ?_)
          refine gd_no (k := ?_)
          refine gd_un (k := ?_)
          refine gd_un (k := ?_)
          refine gd_un (k := ?_)
          refine gd_un (k := ?_)
          refine gd_no (k := ?_)
          refine gd_yes (k := ?_)
          refine rd_pick_t (k := ?_)
          refine rd_pick_t (k := ?_)
          refine r_store_all (k := ?_)
          refine sl_nil ?_
        rotate_left 1
        focus
          refine gd_yes (k := ?_)
          refine r_fieldAddr (k := ?_)
          refine gd_yes (k := ?_)
          refine r_load_one (k := ?_)
          refine gd_yes (k := ?_)
          refine r_eql (k := ?_)
          refine gd_yes (k := ?_)
          refine r_move (k := ?_)
          refine g_part (h1 := fun hg => ?_) (h2 := fun hg => ?_)
          focus
            refine gd_yes (k := ?_)
            refine r_fieldAddr (k := ?_)
            refine gd_yes (k := ?_)
            refine r_idx_arr (k := ?_)
            refine gd_yes (k := ?_)
            refine r_load_one (k := ?_)
            refine gd_yes (k := ?_)
            refine r_eql (k := ?_)
            refine gd_yes (k := ?_)
            refine rd_pick_t (k := ?_)
            refine gd_yes (k := ?_)
            refine rd_pick_f (k := ?_)
            refine rd_pick_t (k := ?_)
            refine r_store_all (k := ?_)
            refine sl_nil ?_
          rotate_left 1
          focus
            refine gd_no (k := ?_)
            refine gd_no (k := ?_)
            refine gd_no (k := ?_)
            refine gd_no (k := ?_)
            refine gd_yes (k := ?_)
            refine rd_pick_f (k := ?_)
            refine gd_yes (k := ?_)
            refine rd_pick_f (k := ?_)
            refine rd_pick_t (k := ?_)
            refine r_store_all (k := ?_)
            refine sl_nil ?_
          rotate_left 1
        rotate_left 2
      rotate_left 3
      focus
        refine gd_no (k := ?_)
        refine gd_no (k := ?_)
        refine gd_no (k := ?_)
        refine gd_no (k := ?_)
        refine gd_no (k := ?_)
        refine gd_no (k := ?_)
        refine gd_no (k := ?_)
        refine gd_yes (k := ?_)
        refine rd_pick_f (k := ?_)
        refine gd_yes (k := ?_)
        refine r_move (k := ?_)
        refine gd_yes (k := ?_)
        refine r_fieldAddr (k := ?_)
        refine gd_yes (k := ?_)
        refine r_load_one (k := ?_)
        refine gd_yes (k := ?_)
        refine r_eql (k := ?_)
        refine gd_yes (k := ?_)
        refine r_move (k := ?_)
        refine g_part (h1 := fun hg => ?_) (h2 := fun hg => ?_)
        focus
          refine gd_yes (k := ?_)
          refine r_fieldAddr (k := ?_)
          refine gd_yes (k := ?_)
          refine r_idx_arr (k := ?_)
          refine gd_yes (k := ?_)
          refine r_load_one (k := ?_)
          refine gd_yes (k := ?_)
          refine r_eql (k := ?_)
          refine gd_yes (k := ?_)
          refine rd_pick_t (k := ?_)
          refine gd_yes (k := ?_)
          refine rd_pick_f (k := ?_)
          refine rd_pick_t (k := ?_)
          refine r_store_all (k := ?_)
          refine sl_nil ?_
        rotate_left 1
        focus
          refine gd_no (k := ?_)
          refine gd_no (k := ?_)
          refine gd_no (k := ?_)
          refine gd_no (k := ?_)
          refine gd_yes (k := ?_)
          refine rd_pick_f (k := ?_)
          refine gd_yes (k := ?_)
          refine rd_pick_f (k := ?_)
          refine rd_pick_t (k := ?_)
          refine r_store_all (k := ?_)
          refine sl_nil ?_
        rotate_left 1
      rotate_left 2
    rotate_left 5
    rotate_left 1
    rotate_left 1
    all_goals refine sp_cutB (by repeat' (first | trivial | exact rfl | apply And.intro)) trivial ?_
    all_goals (simp_all [PtrV.pre] <;> (intros; omega))
  · refine sw_seq ?_
    refine sw_label ?_
    refine sp_then ?_
    refine sw_seq ?_
    refine sw_seq ?_
    refine sw_region ?_
    refine r_load_all (k := ?_)
    refine r_callF (c_addresses G x) (by exact rfl) (by exact rfl) (by exact rfl) (by simp) (by exact rfl) ?_
    rintro _ _ ⟨q, rfl, rfl⟩
    refine sl_nil ?_
    refine sp_then ?_
    refine sw_block ?_
    have key : ∀ (L : List Int) (r : Bool), (runs (looks size) (fun s => ((bif s.2 then some (Code.exit 0) else none).isNone)) (r, false) L).1 = (r && L.all fun at' => decide (4 ≤ at') && decide (at' < size)) := by
      intro L
      induction L with
      | nil => intro r; simp [runs]
      | cons a l ih =>
        intro r
        cases h : (r && decide (4 ≤ a) && decide (a < size))
        · rw [runs_stop (by simp [looks, h])]
          show (r && decide (4 ≤ a) && decide (a < size)) = _
          rw [List.all_cons, ← Bool.and_assoc, ← Bool.and_assoc, h]; rfl
        · rw [runs_cons (by simp [looks, h])]
          have e : looks size (r, false) a = (true, false) := by simp [looks, h]
          rw [e, ih, List.all_cons, ← Bool.and_assoc, ← Bool.and_assoc, h]
    refine sw_range0 (ι := Unit) (i_addresses G q x) (fun r _ => [.box b [vb r.1] 4, .box bx [vi size] 3, .box p x.cs 27]) (fun _ _ => []) (fun s => bif s.2 then some (.exit 0) else none) (looks size) (fun _ _ => True) (x.pre, false) () rfl rfl rfl (adm_true _ _) rfl (by simp) (by simp) (fun _ _ => rfl) rfl (fun x vs V w h => by rw [show vs = [vi x] from h]; rfl) ?_ ?_
    · rintro l mk rec w X U K ⟨r, st⟩ _ at' vs hrec hj _ ht
      have hst : st = false := by cases st <;> simp_all
      subst hst
      refine w_pure ?_
      rintro rfl
      refine sw_region ?_
      refine r_assign (k := ?_)
      refine sl_nil ?_
      refine sp_asgR hrec rfl ?_
      dsimp only [pull, push, two, List.drop, List.take, List.cons_append, List.nil_append]
      refine sw_block ?_
      refine sw_seq ?_
      refine sw_region ?_
      refine r_load_one (k := ?_)
      refine r_move (k := ?_)
      refine g_part (h1 := fun hg => ?_) (h2 := fun hg => ?_)
      focus
        refine gd_yes (k := ?_)
        refine r_move (k := ?_)
        refine gd_yes (k := ?_)
        refine r_geq (k := ?_)
        refine rd_pick_t (k := ?_)
        refine r_move (k := ?_)
        refine g_part (h1 := fun hg => ?_) (h2 := fun hg => ?_)
        focus
          refine gd_yes (k := ?_)
          refine r_move (k := ?_)
          refine gd_yes (k := ?_)
          refine r_load_one (k := ?_)
          refine gd_yes (k := ?_)
          refine r_lss (k := ?_)
          refine rd_pick_t (k := ?_)
          refine r_store_all (k := ?_)
          refine sl_nil ?_
          refine sp_then ?_
          refine sw_seq ?_
          refine sw_region ?_
          refine r_load_one (k := ?_)
          refine r_not (k := ?_)
          refine sl_nil ?_
          refine sp_then ?_
          refine sw_cond (h1 := fun hg => ?_) (h2 := fun hg => ?_)
          focus
            refine sw_exit ?_
            refine sp_block_exit' (h := ?_)
          rotate_left 1
          focus
            refine sw_skip ?_
            refine sp_block ?_
          rotate_left 1
        rotate_left 2
        focus
          refine gd_no (k := ?_)
          refine gd_no (k := ?_)
          refine gd_no (k := ?_)
          refine rd_pick_f (k := ?_)
          refine r_store_all (k := ?_)
          refine sl_nil ?_
          refine sp_then ?_
          refine sw_seq ?_
          refine sw_region ?_
          refine r_load_one (k := ?_)
          refine r_not (k := ?_)
          refine sl_nil ?_
          refine sp_then ?_
          refine swd_t (h := ?_)
          refine sw_exit ?_
          refine sp_block_exit' (h := ?_)
        rotate_left 1
      rotate_left 3
      focus
        refine gd_no (k := ?_)
        refine gd_no (k := ?_)
        refine rd_pick_f (k := ?_)
        refine r_move (k := ?_)
        refine gd_no (k := ?_)
        refine gd_no (k := ?_)
        refine gd_no (k := ?_)
        refine rd_pick_f (k := ?_)
        refine r_store_all (k := ?_)
        refine sl_nil ?_
        refine sp_then ?_
        refine sw_seq ?_
        refine sw_region ?_
        refine r_load_one (k := ?_)
        refine r_not (k := ?_)
        refine sl_nil ?_
        refine sp_then ?_
        refine swd_t (h := ?_)
        refine sw_exit ?_
        refine sp_block_exit' (h := ?_)
      rotate_left 1
      all_goals
        unfold looks
        clear key
        generalize decide (4 ≤ at') = d1 at *
        generalize decide (at' < size) = d2 at *
        cases d1 <;> cases d2 <;> cases r <;> first | contradiction | skip
      all_goals first
        | exact sp_round_exit (ι := Unit) (i' := ()) ht hrec rfl (List.Sublist.refl _) (by simp)
        | exact sp_round (ι := Unit) (i' := ()) ht hrec rfl (List.Sublist.refl _) (by simp)
    · rintro ⟨r, st⟩ _ mk hs
      have hr : r = x.right size := by
        have := key x.addrs x.pre
        rw [← hs] at this
        exact this
      subst hr
      cases st
      · refine ⟨fun _ => ?_, fun j h => (by cases h)⟩
        refine sp_block ?_
        refine sp_then ?_
        refine sw_seq ?_
        refine sw_region ?_
        refine r_load_one (k := ?_)
        refine r_store_all (k := ?_)
        refine sl_nil ?_
        refine sp_then ?_
        refine sw_ret ?_
        refine sp_ng_ret ?_
        refine sp_retv rfl rfl (.one rfl (tz rfl) (.tail _ (.head _))) rfl rfl ⟨rfl, rfl, rfl⟩ (by simp) rfl (by simp)
      · refine ⟨fun h => (by cases h), fun j h => ?_⟩
        obtain rfl : Code.exit 0 = j := by simpa using h
        refine sw_exit ?_
        refine sp_block_exit ?_
        refine sp_then ?_
        refine sw_seq ?_
        refine sw_region ?_
        refine r_load_one (k := ?_)
        refine r_store_all (k := ?_)
        refine sl_nil ?_
        refine sp_then ?_
        refine sw_ret ?_
        refine sp_ng_ret ?_
        refine sp_retv rfl rfl (.one rfl (tz rfl) (.tail _ (.head _))) rfl rfl ⟨rfl, rfl, rfl⟩ (by simp) rfl (by simp)

theorem w_g {c : Ctx} {ρ : List (Nat × Value)} {B : List Own} {Φ : List Res} {Ψ : List JR} {Q : Post} {code : Code} (k : SW c ρ B (c.G :: Φ) Ψ code Q) : SW c ρ B Φ Ψ code Q := sl_to_sw (fun h => f_g h) k

/-- Numbers, and how wide they are: their bytes. -/
def packed (l : List (UInt64 × Nat)) : List UInt8 := l.flatMap fun p => le p.2 p.1
theorem packed_snoc (l : List (UInt64 × Nat)) (n : UInt64) (w : Nat) : packed (l ++ [(n, w)]) = packed l ++ le w n := by simp [packed]
def PtrV.nums (x : PtrV) : List (UInt64 × Nat) := [(x.kind.toUInt64, 1), (x.a0.toUInt64, 2), (x.a1.toUInt64, 2), (x.birth.toUInt64, 4), (x.sum, 8)]
def PtrV.bytes (x : PtrV) : List UInt8 := packed x.nums

theorem packed_len (l : List (UInt64 × Nat)) : (packed l).length = (l.map (·.2)).sum := by
  induction l with
  | nil => rfl
  | cons p l ih => simp only [packed, List.flatMap_cons, List.length_append, le_length, List.map_cons, List.sum_cons] at ih ⊢; rw [ih]

theorem c_pput (s : BS) (x : PtrV) (hok : s.ok) (hl : s.xs.length ≤ 1099511627776) : Ctr Tryd.prog GW 46 [s.v, x.v] [] [s.res] (retB (s.xs ++ x.bytes)) := by
  refine Ctr.intro Tryd.func46 (by kernel_rfl) rfl Tryd.ntmps46 rfl rfl rfl fun w X => ?_
  refine w_g ?_
  refine sw_seq ?_
  refine sw_region ?_
  refine r_box (k := fun bx => ?_)
  refine r_assign (k := ?_)
  refine sl_nil ?_
  refine sp_then ?_
  refine sw_seq ?_
  refine sw_seq ?_
  refine sw_region ?_
  refine r_fieldAddr (k := ?_)
  refine r_load_one (k := ?_)
  refine r_cv_8_64 (k := ?_)
  refine r_fieldAddr (k := ?_)
  refine r_idx_arr (k := ?_)
  refine r_load_one (k := ?_)
  refine r_cv_16_64 (k := ?_)
  refine r_fieldAddr (k := ?_)
  refine r_idx_arr (k := ?_)
  refine r_load_one (k := ?_)
  refine r_cv_16_64 (k := ?_)
  refine r_fieldAddr (k := ?_)
  refine r_load_one (k := ?_)
  refine r_cv_32_64 (k := ?_)
  refine r_fieldAddr (k := ?_)
  refine r_load_one (k := ?_)
  refine r_buildP [v64 x.kind.toUInt64, v64 x.a0.toUInt64, v64 x.a1.toUInt64, v64 x.birth.toUInt64, v64 x.sum] (parts := [(0, .tmp 9), (1, .tmp 13), (2, .tmp 17), (3, .tmp 20), (4, .tmp 22)]) (by exact rfl) (by kernel_rfl) (by exact rfl) ?_
  refine r_move (k := ?_)
  refine sl_nil ?_
  refine sp_then ?_
  refine sw_block ?_
  refine sw_loop (ι := { p : Nat × BS // p.1 ≤ 5 ∧ p.2.ok ∧ p.2.xs = s.xs ++ packed (x.nums.take p.1) })
    (fun p => [(0, p.1.2.v), (23, .agg #[v64 x.kind.toUInt64, v64 x.a0.toUInt64, v64 x.a1.toUInt64, v64 x.birth.toUInt64, v64 x.sum]), (24, vi (p.1.1 : Int))]) (fun _ => [.box bx x.cs 27]) (fun p => [p.1.2.res, GW]) (fun _ => []) (fun p => 5 - p.1.1) ⟨(0, s), by simp, hok, by simp [packed]⟩ ?_ fun i => ?_
  · exact Ent.mk' (by repeat' (first | trivial | exact rfl | apply And.intro)) (by repeat' (first | trivial | exact .head _ | exact .tail _ (.head _) | exact .tail _ (.tail _ (.head _)) | exact .tail _ (.tail _ (.tail _ (.head _))) | exact .tail _ (.tail _ (.tail _ (.tail _ (.head _)))) | exact .tail _ (.tail _ (.tail _ (.tail _ (.tail _ (.head _))))) | exact .tail _ (.tail _ (.tail _ (.tail _ (.tail _ (.tail _ (.head _)))))) | exact .tail _ (.tail _ (.tail _ (.tail _ (.tail _ (.tail _ (.tail _ (.head _))))))) | exact .tail _ (.tail _ (.tail _ (.tail _ (.tail _ (.tail _ (.tail _ (.tail _ (.head _)))))))) | exact .tail _ (.tail _ (.tail _ (.tail _ (.tail _ (.tail _ (.tail _ (.tail _ (.tail _ (.head _))))))))) | exact .tail _ (.tail _ (.tail _ (.tail _ (.tail _ (.tail _ (.tail _ (.tail _ (.tail _ (.tail _ (.head _)))))))))) | exact .tail _ (.tail _ (.tail _ (.tail _ (.tail _ (.tail _ (.tail _ (.tail _ (.tail _ (.tail _ (.tail _ (.head _))))))))))) | apply And.intro))
  obtain ⟨⟨i, s'⟩, hi, hok', hx⟩ := i
  dsimp only at hi hok' hx ⊢
  refine sw_seq ?_
  refine sw_region ?_
  refine r_lss (k := ?_)
  refine sl_nil ?_
  refine sp_then ?_
  refine sw_seq ?_
  refine sw_cond rfl (fun h => ?_) (fun h => ?_)
  · have h := of_decide_eq_true h
    have hlen : s'.xs.length ≤ 1099511627776 + 17 := by
      rw [hx, List.length_append, packed_len]
      have : ((x.nums.take i).map (·.2)).sum ≤ 17 := by
        have : i = 0 ∨ i = 1 ∨ i = 2 ∨ i = 3 ∨ i = 4 := by omega
        rcases this with rfl | rfl | rfl | rfl | rfl <;> simp [PtrV.nums]
      omega
    have hc : i = 0 ∨ i = 1 ∨ i = 2 ∨ i = 3 ∨ i = 4 := by omega
    refine sw_skip ?_
    refine sp_then ?_
    refine sw_seq ?_
    refine sw_block ?_
    refine sw_seq ?_
    refine sw_region ?_
    refine r_move (k := ?_)
    rcases hc with rfl | rfl | rfl | rfl | rfl
    all_goals refine r_index (by exact ta rfl) (by exact tz rfl) (by exact rfl) (by exact rfl) (by omega) (by omega) (by exact Int.toNat_natCast _) (by exact rfl) (by exact rfl) ?_
    focus
      refine r_assign (k := ?_)
      refine r_assign (k := ?_)
      refine sl_nil ?_
      refine sp_then ?_
      refine sw_region ?_
      refine r_move (k := ?_)
      refine r_move (k := ?_)
      refine r_move (k := ?_)
      refine r_idx_arr (k := ?_)
      refine r_load_fr1 (k := ?_)
    rotate_left 1
    focus
      refine r_assign (k := ?_)
      refine r_assign (k := ?_)
      refine sl_nil ?_
      refine sp_then ?_
      refine sw_region ?_
      refine r_move (k := ?_)
      refine r_move (k := ?_)
      refine r_move (k := ?_)
      refine r_idx_arr (k := ?_)
      refine r_load_fr1 (k := ?_)
    rotate_left 1
    focus
      refine r_assign (k := ?_)
      refine r_assign (k := ?_)
      refine sl_nil ?_
      refine sp_then ?_
      refine sw_region ?_
      refine r_move (k := ?_)
      refine r_move (k := ?_)
      refine r_move (k := ?_)
      refine r_idx_arr (k := ?_)
      refine r_load_fr1 (k := ?_)
    rotate_left 1
    focus
      refine r_assign (k := ?_)
      refine r_assign (k := ?_)
      refine sl_nil ?_
      refine sp_then ?_
      refine sw_region ?_
      refine r_move (k := ?_)
      refine r_move (k := ?_)
      refine r_move (k := ?_)
      refine r_idx_arr (k := ?_)
      refine r_load_fr1 (k := ?_)
    rotate_left 1
    focus
      refine r_assign (k := ?_)
      refine r_assign (k := ?_)
      refine sl_nil ?_
      refine sp_then ?_
      refine sw_region ?_
      refine r_move (k := ?_)
      refine r_move (k := ?_)
      refine r_move (k := ?_)
      refine r_idx_arr (k := ?_)
      refine r_load_fr1 (k := ?_)
    rotate_left 1
    · refine r_callB (c_put GW s' _ 1 (by decide) (by decide) (by omega)) (by exact rfl) (by exact rfl) (by exact rfl) (by simp) (by exact rfl) fun r hr hxr => ?_
      refine r_assign (k := ?_)
      refine sl_nil ?_
      refine sp_block ?_
      refine sp_then ?_
      refine sw_region ?_
      refine r_add64 (k := ?_)
      refine r_move (k := ?_)
      refine sl_nil ?_
      refine sp_loop (ι := { p : Nat × BS // p.1 ≤ 5 ∧ p.2.ok ∧ p.2.xs = s.xs ++ packed (x.nums.take p.1) }) ⟨(1, r), by simp, hr, by rw [hxr, hx]; simp [packed, PtrV.nums]⟩ ?_ ?_
      · dsimp only; omega
      · exact Ent.mk' (by repeat' (first | trivial | exact rfl | apply And.intro)) (by repeat' (first | trivial | exact .head _ | exact .tail _ (.head _) | exact .tail _ (.tail _ (.head _)) | exact .tail _ (.tail _ (.tail _ (.head _))) | exact .tail _ (.tail _ (.tail _ (.tail _ (.head _)))) | exact .tail _ (.tail _ (.tail _ (.tail _ (.tail _ (.head _))))) | exact .tail _ (.tail _ (.tail _ (.tail _ (.tail _ (.tail _ (.head _)))))) | exact .tail _ (.tail _ (.tail _ (.tail _ (.tail _ (.tail _ (.tail _ (.head _))))))) | exact .tail _ (.tail _ (.tail _ (.tail _ (.tail _ (.tail _ (.tail _ (.tail _ (.head _)))))))) | exact .tail _ (.tail _ (.tail _ (.tail _ (.tail _ (.tail _ (.tail _ (.tail _ (.tail _ (.head _))))))))) | exact .tail _ (.tail _ (.tail _ (.tail _ (.tail _ (.tail _ (.tail _ (.tail _ (.tail _ (.tail _ (.head _)))))))))) | exact .tail _ (.tail _ (.tail _ (.tail _ (.tail _ (.tail _ (.tail _ (.tail _ (.tail _ (.tail _ (.tail _ (.head _))))))))))) | apply And.intro))
    · refine r_callB (c_put GW s' _ 2 (by decide) (by decide) (by omega)) (by exact rfl) (by exact rfl) (by exact rfl) (by simp) (by exact rfl) fun r hr hxr => ?_
      refine r_assign (k := ?_)
      refine sl_nil ?_
      refine sp_block ?_
      refine sp_then ?_
      refine sw_region ?_
      refine r_add64 (k := ?_)
      refine r_move (k := ?_)
      refine sl_nil ?_
      refine sp_loop (ι := { p : Nat × BS // p.1 ≤ 5 ∧ p.2.ok ∧ p.2.xs = s.xs ++ packed (x.nums.take p.1) }) ⟨(2, r), by simp, hr, by rw [hxr, hx]; simp [packed, PtrV.nums]⟩ ?_ ?_
      · dsimp only; omega
      · exact Ent.mk' (by repeat' (first | trivial | exact rfl | apply And.intro)) (by repeat' (first | trivial | exact .head _ | exact .tail _ (.head _) | exact .tail _ (.tail _ (.head _)) | exact .tail _ (.tail _ (.tail _ (.head _))) | exact .tail _ (.tail _ (.tail _ (.tail _ (.head _)))) | exact .tail _ (.tail _ (.tail _ (.tail _ (.tail _ (.head _))))) | exact .tail _ (.tail _ (.tail _ (.tail _ (.tail _ (.tail _ (.head _)))))) | exact .tail _ (.tail _ (.tail _ (.tail _ (.tail _ (.tail _ (.tail _ (.head _))))))) | exact .tail _ (.tail _ (.tail _ (.tail _ (.tail _ (.tail _ (.tail _ (.tail _ (.head _)))))))) | exact .tail _ (.tail _ (.tail _ (.tail _ (.tail _ (.tail _ (.tail _ (.tail _ (.tail _ (.head _))))))))) | exact .tail _ (.tail _ (.tail _ (.tail _ (.tail _ (.tail _ (.tail _ (.tail _ (.tail _ (.tail _ (.head _)))))))))) | exact .tail _ (.tail _ (.tail _ (.tail _ (.tail _ (.tail _ (.tail _ (.tail _ (.tail _ (.tail _ (.tail _ (.head _))))))))))) | apply And.intro))
    · refine r_callB (c_put GW s' _ 2 (by decide) (by decide) (by omega)) (by exact rfl) (by exact rfl) (by exact rfl) (by simp) (by exact rfl) fun r hr hxr => ?_
      refine r_assign (k := ?_)
      refine sl_nil ?_
      refine sp_block ?_
      refine sp_then ?_
      refine sw_region ?_
      refine r_add64 (k := ?_)
      refine r_move (k := ?_)
      refine sl_nil ?_
      refine sp_loop (ι := { p : Nat × BS // p.1 ≤ 5 ∧ p.2.ok ∧ p.2.xs = s.xs ++ packed (x.nums.take p.1) }) ⟨(3, r), by simp, hr, by rw [hxr, hx]; simp [packed, PtrV.nums]⟩ ?_ ?_
      · dsimp only; omega
      · exact Ent.mk' (by repeat' (first | trivial | exact rfl | apply And.intro)) (by repeat' (first | trivial | exact .head _ | exact .tail _ (.head _) | exact .tail _ (.tail _ (.head _)) | exact .tail _ (.tail _ (.tail _ (.head _))) | exact .tail _ (.tail _ (.tail _ (.tail _ (.head _)))) | exact .tail _ (.tail _ (.tail _ (.tail _ (.tail _ (.head _))))) | exact .tail _ (.tail _ (.tail _ (.tail _ (.tail _ (.tail _ (.head _)))))) | exact .tail _ (.tail _ (.tail _ (.tail _ (.tail _ (.tail _ (.tail _ (.head _))))))) | exact .tail _ (.tail _ (.tail _ (.tail _ (.tail _ (.tail _ (.tail _ (.tail _ (.head _)))))))) | exact .tail _ (.tail _ (.tail _ (.tail _ (.tail _ (.tail _ (.tail _ (.tail _ (.tail _ (.head _))))))))) | exact .tail _ (.tail _ (.tail _ (.tail _ (.tail _ (.tail _ (.tail _ (.tail _ (.tail _ (.tail _ (.head _)))))))))) | exact .tail _ (.tail _ (.tail _ (.tail _ (.tail _ (.tail _ (.tail _ (.tail _ (.tail _ (.tail _ (.tail _ (.head _))))))))))) | apply And.intro))
    · refine r_callB (c_put GW s' _ 4 (by decide) (by decide) (by omega)) (by exact rfl) (by exact rfl) (by exact rfl) (by simp) (by exact rfl) fun r hr hxr => ?_
      refine r_assign (k := ?_)
      refine sl_nil ?_
      refine sp_block ?_
      refine sp_then ?_
      refine sw_region ?_
      refine r_add64 (k := ?_)
      refine r_move (k := ?_)
      refine sl_nil ?_
      refine sp_loop (ι := { p : Nat × BS // p.1 ≤ 5 ∧ p.2.ok ∧ p.2.xs = s.xs ++ packed (x.nums.take p.1) }) ⟨(4, r), by simp, hr, by rw [hxr, hx]; simp [packed, PtrV.nums]⟩ ?_ ?_
      · dsimp only; omega
      · exact Ent.mk' (by repeat' (first | trivial | exact rfl | apply And.intro)) (by repeat' (first | trivial | exact .head _ | exact .tail _ (.head _) | exact .tail _ (.tail _ (.head _)) | exact .tail _ (.tail _ (.tail _ (.head _))) | exact .tail _ (.tail _ (.tail _ (.tail _ (.head _)))) | exact .tail _ (.tail _ (.tail _ (.tail _ (.tail _ (.head _))))) | exact .tail _ (.tail _ (.tail _ (.tail _ (.tail _ (.tail _ (.head _)))))) | exact .tail _ (.tail _ (.tail _ (.tail _ (.tail _ (.tail _ (.tail _ (.head _))))))) | exact .tail _ (.tail _ (.tail _ (.tail _ (.tail _ (.tail _ (.tail _ (.tail _ (.head _)))))))) | exact .tail _ (.tail _ (.tail _ (.tail _ (.tail _ (.tail _ (.tail _ (.tail _ (.tail _ (.head _))))))))) | exact .tail _ (.tail _ (.tail _ (.tail _ (.tail _ (.tail _ (.tail _ (.tail _ (.tail _ (.tail _ (.head _)))))))))) | exact .tail _ (.tail _ (.tail _ (.tail _ (.tail _ (.tail _ (.tail _ (.tail _ (.tail _ (.tail _ (.tail _ (.head _))))))))))) | apply And.intro))
    · refine r_callB (c_put GW s' _ 8 (by decide) (by decide) (by omega)) (by exact rfl) (by exact rfl) (by exact rfl) (by simp) (by exact rfl) fun r hr hxr => ?_
      refine r_assign (k := ?_)
      refine sl_nil ?_
      refine sp_block ?_
      refine sp_then ?_
      refine sw_region ?_
      refine r_add64 (k := ?_)
      refine r_move (k := ?_)
      refine sl_nil ?_
      refine sp_loop (ι := { p : Nat × BS // p.1 ≤ 5 ∧ p.2.ok ∧ p.2.xs = s.xs ++ packed (x.nums.take p.1) }) ⟨(5, r), by simp, hr, by rw [hxr, hx]; simp [packed, PtrV.nums]⟩ ?_ ?_
      · dsimp only; omega
      · exact Ent.mk' (by repeat' (first | trivial | exact rfl | apply And.intro)) (by repeat' (first | trivial | exact .head _ | exact .tail _ (.head _) | exact .tail _ (.tail _ (.head _)) | exact .tail _ (.tail _ (.tail _ (.head _))) | exact .tail _ (.tail _ (.tail _ (.tail _ (.head _)))) | exact .tail _ (.tail _ (.tail _ (.tail _ (.tail _ (.head _))))) | exact .tail _ (.tail _ (.tail _ (.tail _ (.tail _ (.tail _ (.head _)))))) | exact .tail _ (.tail _ (.tail _ (.tail _ (.tail _ (.tail _ (.tail _ (.head _))))))) | exact .tail _ (.tail _ (.tail _ (.tail _ (.tail _ (.tail _ (.tail _ (.tail _ (.head _)))))))) | exact .tail _ (.tail _ (.tail _ (.tail _ (.tail _ (.tail _ (.tail _ (.tail _ (.tail _ (.head _))))))))) | exact .tail _ (.tail _ (.tail _ (.tail _ (.tail _ (.tail _ (.tail _ (.tail _ (.tail _ (.tail _ (.head _)))))))))) | exact .tail _ (.tail _ (.tail _ (.tail _ (.tail _ (.tail _ (.tail _ (.tail _ (.tail _ (.tail _ (.tail _ (.head _))))))))))) | apply And.intro))
  · have h := of_decide_eq_false h
    obtain rfl : i = 5 := by omega
    refine sw_exit ?_
    refine sp_then_exit ?_
    refine sp_loop_exit ?_
    refine sp_block_exit ?_
    refine sp_then ?_
    refine sw_seq ?_
    refine sw_region ?_
    refine r_move (k := ?_)
    refine r_assign (k := ?_)
    refine sl_nil ?_
    refine sp_then ?_
    refine sw_ret ?_
    refine sp_retv rfl rfl (.tmp rfl) rfl rfl ⟨rfl, s', rfl, hok', hx, rfl⟩ (by simp) rfl (by simp)

/-- The numbers of a pointer's bytes. -/
def pvals (xs : List UInt8) : List UInt64 := [unle (xs.take 1), unle ((xs.drop 1).take 2), unle ((xs.drop 3).take 2), unle ((xs.drop 5).take 4), unle ((xs.drop 9).take 8)]
def pcells (xs : List UInt8) (i : Nat) : List Value := ((pvals xs).take i ++ List.replicate (5 - i) 0).map v64
def poff : Nat → Nat
  | 0 => 0 | 1 => 1 | 2 => 3 | 3 => 5 | 4 => 9 | _ => 17
def ptake (xs : List UInt8) : PtrV := ⟨(unle (xs.take 1)).toUInt8, (unle ((xs.drop 1).take 2)).toUInt16, (unle ((xs.drop 3).take 2)).toUInt16, (unle ((xs.drop 5).take 4)).toUInt32, unle ((xs.drop 9).take 8)⟩

theorem c_ptake (s : BS) (hok : s.ok) (hl : 17 ≤ s.xs.length) : Ctr Tryd.prog GW 54 [s.v] [] [s.res] (retF fun v Φ' => ∃ r : BS, v = .tuple #[(ptake s.xs).v, r.v, vi 0] ∧ r.ok ∧ r.xs = s.xs.drop 17 ∧ Φ' = [r.res]) := by
  refine Ctr.intro Tryd.func54 (by kernel_rfl) rfl Tryd.ntmps54 rfl rfl rfl fun w X => ?_
  refine w_g ?_
  refine sw_seq ?_
  refine sw_region ?_
  refine r_alloc (by exact z27) (by exact rfl) (by exact rfl) fun b2 => ?_
  refine r_assign (k := ?_)
  refine r_assign (k := ?_)
  refine sl_nil ?_
  refine sp_then ?_
  refine sw_seq ?_
  refine sw_seq ?_
  refine sw_region ?_
  refine r_move (k := ?_)
  refine r_len (k := ?_)
  refine r_lss (k := ?_)
  refine sl_nil ?_
  refine sp_then ?_
  refine sw_cond rfl (fun h => ?_) (fun h => ?_)
  · have h := of_decide_eq_true h
    exact absurd h (by omega)
  refine sw_skip ?_
  refine sp_then ?_
  refine sw_seq ?_
  refine sw_region ?_
  refine r_alloc (by exact z121) (by exact rfl) (by exact rfl) fun b5 => ?_
  refine sl_nil ?_
  refine sp_then ?_
  refine sw_seq ?_
  refine sw_region ?_
  refine r_move (k := ?_)
  refine r_assign (k := ?_)
  refine sl_nil ?_
  refine sp_then ?_
  refine sw_seq ?_
  refine sw_seq ?_
  refine sw_region ?_
  refine r_load_fr (k := ?_)
  refine r_move (k := ?_)
  refine sl_nil ?_
  refine sp_then ?_
  refine sw_block ?_
  refine sw_loop (ι := { p : Nat × BS // p.1 ≤ 5 ∧ p.2.ok ∧ p.2.xs = s.xs.drop (poff p.1) })
    (fun p => [(2, .pointer (some ⟨b2, 0, none⟩)), (3, p.1.2.v), (5, .pointer (some ⟨b5, 0, none⟩)), (14, .agg #[vi 1, vi 2, vi 2, vi 4, vi 8]), (15, vi (p.1.1 : Int))]) (fun p => [.box b5 (pcells s.xs p.1.1) 121, .box b2 PtrV.none.cs 27]) (fun p => [p.1.2.res, GW]) (fun _ => []) (fun p => 5 - p.1.1) ⟨(0, s), by simp, hok, by simp [poff]⟩ ?_ fun i => ?_
  · exact Ent.mk' (by repeat' (first | trivial | exact rfl | apply And.intro)) (by repeat' (first | trivial | exact .head _ | exact .tail _ (.head _) | exact .tail _ (.tail _ (.head _)) | exact .tail _ (.tail _ (.tail _ (.head _))) | exact .tail _ (.tail _ (.tail _ (.tail _ (.head _)))) | exact .tail _ (.tail _ (.tail _ (.tail _ (.tail _ (.head _))))) | exact .tail _ (.tail _ (.tail _ (.tail _ (.tail _ (.tail _ (.head _)))))) | exact .tail _ (.tail _ (.tail _ (.tail _ (.tail _ (.tail _ (.tail _ (.head _))))))) | exact .tail _ (.tail _ (.tail _ (.tail _ (.tail _ (.tail _ (.tail _ (.tail _ (.head _)))))))) | exact .tail _ (.tail _ (.tail _ (.tail _ (.tail _ (.tail _ (.tail _ (.tail _ (.tail _ (.head _))))))))) | exact .tail _ (.tail _ (.tail _ (.tail _ (.tail _ (.tail _ (.tail _ (.tail _ (.tail _ (.tail _ (.head _)))))))))) | exact .tail _ (.tail _ (.tail _ (.tail _ (.tail _ (.tail _ (.tail _ (.tail _ (.tail _ (.tail _ (.tail _ (.head _))))))))))) | apply And.intro))
  obtain ⟨⟨i, s'⟩, hi, hok', hx⟩ := i
  dsimp only at hi hok' hx ⊢
  have hsl : s'.xs.length = s.xs.length - poff i := by rw [hx]; simp
  refine sw_seq ?_
  refine sw_region ?_
  refine r_lss (k := ?_)
  refine sl_nil ?_
  refine sp_then ?_
  refine sw_seq ?_
  refine sw_cond rfl (fun h => ?_) (fun h => ?_)
  · have h := of_decide_eq_true h
    have hc : i = 0 ∨ i = 1 ∨ i = 2 ∨ i = 3 ∨ i = 4 := by omega
    refine sw_skip ?_
    refine sp_then ?_
    refine sw_seq ?_
    refine sw_block ?_
    refine sw_seq ?_
    refine sw_region ?_
    refine r_move (k := ?_)
    rcases hc with rfl | rfl | rfl | rfl | rfl
    all_goals simp only [poff] at hsl hx
    all_goals refine r_index (by exact ta rfl) (by exact tz rfl) (by exact rfl) (by exact rfl) (by omega) (by omega) (by exact Int.toNat_natCast _) (by exact rfl) (by exact rfl) ?_
    focus
      refine r_assign (k := ?_)
      refine r_assign (k := ?_)
      refine sl_nil ?_
      refine sp_then ?_
      refine sw_region ?_
      refine r_move (k := ?_)
      refine r_move (k := ?_)
      refine r_move (k := ?_)
    rotate_left 1
    focus
      refine r_assign (k := ?_)
      refine r_assign (k := ?_)
      refine sl_nil ?_
      refine sp_then ?_
      refine sw_region ?_
      refine r_move (k := ?_)
      refine r_move (k := ?_)
      refine r_move (k := ?_)
    rotate_left 1
    focus
      refine r_assign (k := ?_)
      refine r_assign (k := ?_)
      refine sl_nil ?_
      refine sp_then ?_
      refine sw_region ?_
      refine r_move (k := ?_)
      refine r_move (k := ?_)
      refine r_move (k := ?_)
    rotate_left 1
    focus
      refine r_assign (k := ?_)
      refine r_assign (k := ?_)
      refine sl_nil ?_
      refine sp_then ?_
      refine sw_region ?_
      refine r_move (k := ?_)
      refine r_move (k := ?_)
      refine r_move (k := ?_)
    rotate_left 1
    focus
      refine r_assign (k := ?_)
      refine r_assign (k := ?_)
      refine sl_nil ?_
      refine sp_then ?_
      refine sw_region ?_
      refine r_move (k := ?_)
      refine r_move (k := ?_)
      refine r_move (k := ?_)
    rotate_left 1
    · refine r_callF (c_take GW s' hok' 1 (by decide) (by decide) (by omega)) (by exact rfl) (by exact rfl) (by exact rfl) (by simp) (by exact rfl) ?_
      rintro _ _ ⟨r, rfl, hr, hxr, rfl⟩
      refine r_move (k := ?_)
      refine r_ext (k := ?_)
      refine r_ext (k := ?_)
      refine r_ext (k := ?_)
      refine r_idx_arr (k := ?_)
      refine r_store1 (k := ?_)
      refine r_assign (k := ?_)
      refine sl_nil ?_
      refine sp_block ?_
      refine sp_then ?_
      refine sw_region ?_
      refine r_add64 (k := ?_)
      refine r_move (k := ?_)
      refine sl_nil ?_
      refine sp_eqB (B' := [.box b5 (pcells s.xs 1) 121, .box b2 PtrV.none.cs 27]) (by rw [hx]; rfl) ?_
      refine sp_loop (ι := { p : Nat × BS // p.1 ≤ 5 ∧ p.2.ok ∧ p.2.xs = s.xs.drop (poff p.1) }) ⟨(1, r), by simp, hr, by rw [hxr, hx]; simp [poff]⟩ ?_ ?_
      · dsimp only; omega
      · exact Ent.mk' (by repeat' (first | trivial | exact rfl | apply And.intro)) (by repeat' (first | trivial | exact .head _ | exact .tail _ (.head _) | exact .tail _ (.tail _ (.head _)) | exact .tail _ (.tail _ (.tail _ (.head _))) | exact .tail _ (.tail _ (.tail _ (.tail _ (.head _)))) | exact .tail _ (.tail _ (.tail _ (.tail _ (.tail _ (.head _))))) | exact .tail _ (.tail _ (.tail _ (.tail _ (.tail _ (.tail _ (.head _)))))) | exact .tail _ (.tail _ (.tail _ (.tail _ (.tail _ (.tail _ (.tail _ (.head _))))))) | exact .tail _ (.tail _ (.tail _ (.tail _ (.tail _ (.tail _ (.tail _ (.tail _ (.head _)))))))) | exact .tail _ (.tail _ (.tail _ (.tail _ (.tail _ (.tail _ (.tail _ (.tail _ (.tail _ (.head _))))))))) | exact .tail _ (.tail _ (.tail _ (.tail _ (.tail _ (.tail _ (.tail _ (.tail _ (.tail _ (.tail _ (.head _)))))))))) | exact .tail _ (.tail _ (.tail _ (.tail _ (.tail _ (.tail _ (.tail _ (.tail _ (.tail _ (.tail _ (.tail _ (.head _))))))))))) | apply And.intro))
    · refine r_callF (c_take GW s' hok' 2 (by decide) (by decide) (by omega)) (by exact rfl) (by exact rfl) (by exact rfl) (by simp) (by exact rfl) ?_
      rintro _ _ ⟨r, rfl, hr, hxr, rfl⟩
      refine r_move (k := ?_)
      refine r_ext (k := ?_)
      refine r_ext (k := ?_)
      refine r_ext (k := ?_)
      refine r_idx_arr (k := ?_)
      refine r_store1 (k := ?_)
      refine r_assign (k := ?_)
      refine sl_nil ?_
      refine sp_block ?_
      refine sp_then ?_
      refine sw_region ?_
      refine r_add64 (k := ?_)
      refine r_move (k := ?_)
      refine sl_nil ?_
      refine sp_eqB (B' := [.box b5 (pcells s.xs 2) 121, .box b2 PtrV.none.cs 27]) (by rw [hx]; rfl) ?_
      refine sp_loop (ι := { p : Nat × BS // p.1 ≤ 5 ∧ p.2.ok ∧ p.2.xs = s.xs.drop (poff p.1) }) ⟨(2, r), by simp, hr, by rw [hxr, hx]; simp [poff]⟩ ?_ ?_
      · dsimp only; omega
      · exact Ent.mk' (by repeat' (first | trivial | exact rfl | apply And.intro)) (by repeat' (first | trivial | exact .head _ | exact .tail _ (.head _) | exact .tail _ (.tail _ (.head _)) | exact .tail _ (.tail _ (.tail _ (.head _))) | exact .tail _ (.tail _ (.tail _ (.tail _ (.head _)))) | exact .tail _ (.tail _ (.tail _ (.tail _ (.tail _ (.head _))))) | exact .tail _ (.tail _ (.tail _ (.tail _ (.tail _ (.tail _ (.head _)))))) | exact .tail _ (.tail _ (.tail _ (.tail _ (.tail _ (.tail _ (.tail _ (.head _))))))) | exact .tail _ (.tail _ (.tail _ (.tail _ (.tail _ (.tail _ (.tail _ (.tail _ (.head _)))))))) | exact .tail _ (.tail _ (.tail _ (.tail _ (.tail _ (.tail _ (.tail _ (.tail _ (.tail _ (.head _))))))))) | exact .tail _ (.tail _ (.tail _ (.tail _ (.tail _ (.tail _ (.tail _ (.tail _ (.tail _ (.tail _ (.head _)))))))))) | exact .tail _ (.tail _ (.tail _ (.tail _ (.tail _ (.tail _ (.tail _ (.tail _ (.tail _ (.tail _ (.tail _ (.head _))))))))))) | apply And.intro))
    · refine r_callF (c_take GW s' hok' 2 (by decide) (by decide) (by omega)) (by exact rfl) (by exact rfl) (by exact rfl) (by simp) (by exact rfl) ?_
      rintro _ _ ⟨r, rfl, hr, hxr, rfl⟩
      refine r_move (k := ?_)
      refine r_ext (k := ?_)
      refine r_ext (k := ?_)
      refine r_ext (k := ?_)
      refine r_idx_arr (k := ?_)
      refine r_store1 (k := ?_)
      refine r_assign (k := ?_)
      refine sl_nil ?_
      refine sp_block ?_
      refine sp_then ?_
      refine sw_region ?_
      refine r_add64 (k := ?_)
      refine r_move (k := ?_)
      refine sl_nil ?_
      refine sp_eqB (B' := [.box b5 (pcells s.xs 3) 121, .box b2 PtrV.none.cs 27]) (by rw [hx]; rfl) ?_
      refine sp_loop (ι := { p : Nat × BS // p.1 ≤ 5 ∧ p.2.ok ∧ p.2.xs = s.xs.drop (poff p.1) }) ⟨(3, r), by simp, hr, by rw [hxr, hx]; simp [poff]⟩ ?_ ?_
      · dsimp only; omega
      · exact Ent.mk' (by repeat' (first | trivial | exact rfl | apply And.intro)) (by repeat' (first | trivial | exact .head _ | exact .tail _ (.head _) | exact .tail _ (.tail _ (.head _)) | exact .tail _ (.tail _ (.tail _ (.head _))) | exact .tail _ (.tail _ (.tail _ (.tail _ (.head _)))) | exact .tail _ (.tail _ (.tail _ (.tail _ (.tail _ (.head _))))) | exact .tail _ (.tail _ (.tail _ (.tail _ (.tail _ (.tail _ (.head _)))))) | exact .tail _ (.tail _ (.tail _ (.tail _ (.tail _ (.tail _ (.tail _ (.head _))))))) | exact .tail _ (.tail _ (.tail _ (.tail _ (.tail _ (.tail _ (.tail _ (.tail _ (.head _)))))))) | exact .tail _ (.tail _ (.tail _ (.tail _ (.tail _ (.tail _ (.tail _ (.tail _ (.tail _ (.head _))))))))) | exact .tail _ (.tail _ (.tail _ (.tail _ (.tail _ (.tail _ (.tail _ (.tail _ (.tail _ (.tail _ (.head _)))))))))) | exact .tail _ (.tail _ (.tail _ (.tail _ (.tail _ (.tail _ (.tail _ (.tail _ (.tail _ (.tail _ (.tail _ (.head _))))))))))) | apply And.intro))
    · refine r_callF (c_take GW s' hok' 4 (by decide) (by decide) (by omega)) (by exact rfl) (by exact rfl) (by exact rfl) (by simp) (by exact rfl) ?_
      rintro _ _ ⟨r, rfl, hr, hxr, rfl⟩
      refine r_move (k := ?_)
      refine r_ext (k := ?_)
      refine r_ext (k := ?_)
      refine r_ext (k := ?_)
      refine r_idx_arr (k := ?_)
      refine r_store1 (k := ?_)
      refine r_assign (k := ?_)
      refine sl_nil ?_
      refine sp_block ?_
      refine sp_then ?_
      refine sw_region ?_
      refine r_add64 (k := ?_)
      refine r_move (k := ?_)
      refine sl_nil ?_
      refine sp_eqB (B' := [.box b5 (pcells s.xs 4) 121, .box b2 PtrV.none.cs 27]) (by rw [hx]; rfl) ?_
      refine sp_loop (ι := { p : Nat × BS // p.1 ≤ 5 ∧ p.2.ok ∧ p.2.xs = s.xs.drop (poff p.1) }) ⟨(4, r), by simp, hr, by rw [hxr, hx]; simp [poff]⟩ ?_ ?_
      · dsimp only; omega
      · exact Ent.mk' (by repeat' (first | trivial | exact rfl | apply And.intro)) (by repeat' (first | trivial | exact .head _ | exact .tail _ (.head _) | exact .tail _ (.tail _ (.head _)) | exact .tail _ (.tail _ (.tail _ (.head _))) | exact .tail _ (.tail _ (.tail _ (.tail _ (.head _)))) | exact .tail _ (.tail _ (.tail _ (.tail _ (.tail _ (.head _))))) | exact .tail _ (.tail _ (.tail _ (.tail _ (.tail _ (.tail _ (.head _)))))) | exact .tail _ (.tail _ (.tail _ (.tail _ (.tail _ (.tail _ (.tail _ (.head _))))))) | exact .tail _ (.tail _ (.tail _ (.tail _ (.tail _ (.tail _ (.tail _ (.tail _ (.head _)))))))) | exact .tail _ (.tail _ (.tail _ (.tail _ (.tail _ (.tail _ (.tail _ (.tail _ (.tail _ (.head _))))))))) | exact .tail _ (.tail _ (.tail _ (.tail _ (.tail _ (.tail _ (.tail _ (.tail _ (.tail _ (.tail _ (.head _)))))))))) | exact .tail _ (.tail _ (.tail _ (.tail _ (.tail _ (.tail _ (.tail _ (.tail _ (.tail _ (.tail _ (.tail _ (.head _))))))))))) | apply And.intro))
    · refine r_callF (c_take GW s' hok' 8 (by decide) (by decide) (by omega)) (by exact rfl) (by exact rfl) (by exact rfl) (by simp) (by exact rfl) ?_
      rintro _ _ ⟨r, rfl, hr, hxr, rfl⟩
      refine r_move (k := ?_)
      refine r_ext (k := ?_)
      refine r_ext (k := ?_)
      refine r_ext (k := ?_)
      refine r_idx_arr (k := ?_)
      refine r_store1 (k := ?_)
      refine r_assign (k := ?_)
      refine sl_nil ?_
      refine sp_block ?_
      refine sp_then ?_
      refine sw_region ?_
      refine r_add64 (k := ?_)
      refine r_move (k := ?_)
      refine sl_nil ?_
      refine sp_eqB (B' := [.box b5 (pcells s.xs 5) 121, .box b2 PtrV.none.cs 27]) (by rw [hx]; rfl) ?_
      refine sp_loop (ι := { p : Nat × BS // p.1 ≤ 5 ∧ p.2.ok ∧ p.2.xs = s.xs.drop (poff p.1) }) ⟨(5, r), by simp, hr, by rw [hxr, hx]; simp [poff]⟩ ?_ ?_
      · dsimp only; omega
      · exact Ent.mk' (by repeat' (first | trivial | exact rfl | apply And.intro)) (by repeat' (first | trivial | exact .head _ | exact .tail _ (.head _) | exact .tail _ (.tail _ (.head _)) | exact .tail _ (.tail _ (.tail _ (.head _))) | exact .tail _ (.tail _ (.tail _ (.tail _ (.head _)))) | exact .tail _ (.tail _ (.tail _ (.tail _ (.tail _ (.head _))))) | exact .tail _ (.tail _ (.tail _ (.tail _ (.tail _ (.tail _ (.head _)))))) | exact .tail _ (.tail _ (.tail _ (.tail _ (.tail _ (.tail _ (.tail _ (.head _))))))) | exact .tail _ (.tail _ (.tail _ (.tail _ (.tail _ (.tail _ (.tail _ (.tail _ (.head _)))))))) | exact .tail _ (.tail _ (.tail _ (.tail _ (.tail _ (.tail _ (.tail _ (.tail _ (.tail _ (.head _))))))))) | exact .tail _ (.tail _ (.tail _ (.tail _ (.tail _ (.tail _ (.tail _ (.tail _ (.tail _ (.tail _ (.head _)))))))))) | exact .tail _ (.tail _ (.tail _ (.tail _ (.tail _ (.tail _ (.tail _ (.tail _ (.tail _ (.tail _ (.tail _ (.head _))))))))))) | apply And.intro))
  · have h := of_decide_eq_false h
    obtain rfl : i = 5 := by omega
    refine sw_exit ?_
    refine sp_then_exit ?_
    refine sp_loop_exit ?_
    refine sp_block_exit ?_
    refine sp_then ?_
    refine sw_seq ?_
    refine sw_region ?_
    refine r_idx_arr (k := ?_)
    refine r_load_one (k := ?_)
    refine r_cv_64_8 (k := ?_)
    refine r_idx_arr (k := ?_)
    refine r_load_one (k := ?_)
    refine r_cv_64_16 (k := ?_)
    refine r_idx_arr (k := ?_)
    refine r_load_one (k := ?_)
    refine r_cv_64_16 (k := ?_)
    refine r_buildP [v16 (ptake s.xs).a0, v16 (ptake s.xs).a1] (parts := [(0, .tmp 34), (1, .tmp 37)]) (by exact rfl) (by kernel_rfl) (by exact rfl) ?_
    refine r_idx_arr (k := ?_)
    refine r_load_one (k := ?_)
    refine r_cv_64_32 (k := ?_)
    refine r_idx_arr (k := ?_)
    refine r_load_one (k := ?_)
    refine r_buildP (ptake s.xs).cs (parts := [(0, .tmp 31), (1, .tmp 38), (2, .tmp 41), (3, .tmp 43)]) (by exact rfl) (by kernel_rfl) (by exact rfl) ?_
    refine r_move (k := ?_)
    refine r_store_all (k := ?_)
    refine r_assign (k := ?_)
    refine r_assign (k := ?_)
    refine sl_nil ?_
    refine sp_then ?_
    refine sw_ret ?_
    refine sp_ret3 rfl rfl (.agg rfl (tz rfl) rfl (.tail _ (.head _))) (.tmp rfl) (.tmp rfl) rfl rfl ⟨rfl, s', rfl, hok', hx, rfl⟩ (by simp) rfl (by simp)
end Go.Proofs.YtjahiohlekdhoaaDoor
