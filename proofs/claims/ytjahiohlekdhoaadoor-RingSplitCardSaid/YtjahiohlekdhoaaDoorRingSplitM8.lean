/-
  The walk of the law RingDoubt.
  The walk of vdev.Flush, where no page is bad.
  The walk of mirror.Flush.
  The walk of ring.Heal.
  The walks of the document's disks: own ones, detached, attached.
  Rings, plain: two disks of which each has its own anchors; disks flushed.
  The walks of the document's disks that are the same (of such as have no cache, no bad page).
  The law RingHeals: what is known between two puts; behind healing.
  Rings, plain: which is the newest of two disks, whatever their anchors; two histories.
-/
import Derived.Test.YtjahiohlekdhoaaDoorRingSplitM7
import Derived.Test.YtjahiohlekdhoaaDoorRingSplitM6
import Derived.Test.YtjahiohlekdhoaaDoorRingSplitM5
namespace Go.Proofs.YtjahiohlekdhoaaDoor
open Go
set_option maxHeartbeats 4000000
set_option maxRecDepth 4000
attribute [local irreducible] SW SL SP RA Then FQ IQ LoopQ RQ AQ NX CutQ Exit.noGoto
attribute [local irreducible] CutE

theorem DiskP.holds.congr {d : DiskP} {n i : Nat} {T T' : Nat → AncP} (h : d.holds n i T) (e : ∀ m, m < 4 → T m = T' m) : d.holds n i T' := ⟨h.fine, h.off, h.bad, h.len, h.cache, fun m hm => (h.slot m hm).trans (e m hm)⟩
theorem PairV.holds.congr {p : PairV} {n i : Nat} {T T' : Nat → AncP} (h : p.holds n i T) (e : ∀ m, m < 4 → T m = T' m) : p.holds n i T' := ⟨h.o0, h.o1, h.h0.congr e, h.h1.congr e⟩
/-- The anchors of the last numbers. -/
def lastT (n : Nat) (f : Nat → UInt32) (m : Nat) : AncP := if f m = 0 then AncP.zero else (plainA (f m) (UInt16.ofNat n) 3 (f m)).pure
def lastL (f : Nat → UInt32) (m : Nat) : Nat := (f m).toNat
def putF (f : Nat → UInt32) (t : UInt32) (m : Nat) : UInt32 := if m = (t % 4).toNat then t else f m
theorem u32_zero {x : UInt32} : x.toNat = 0 ↔ x = 0 := ⟨fun h => UInt32.toNat_inj.1 h, fun h => by rw [h]; rfl⟩
theorem last_an (n : Nat) (f : Nat → UInt32) : anT (lastT n f) (lastL f) := fun m _ => by
  unfold lastT lastL
  by_cases h : f m = 0
  · rw [if_pos h, h]; exact ⟨rfl, fun h => absurd rfl h⟩
  · rw [if_neg h]; exact ⟨rfl, fun _ => rfl⟩
theorem last_put (n : Nat) (f : Nat → UInt32) (t : UInt32) (h : ¬ t = 0) (m : Nat) : (if m = (t % 4).toNat then (plainA t (UInt16.ofNat n) 3 t).pure else lastT n f m) = lastT n (putF f t) m := by
  unfold lastT putF
  by_cases e : m = (t % 4).toNat
  · rw [if_pos e, if_pos e, if_neg h]
  · rw [if_neg e, if_neg e]
/-- What is known between two puts. -/
structure Rise (n i : Nat) (tx : UInt32) (f : Nat → UInt32) (p : PairV) : Prop where
  h : p.holds n i (lastT n f)
  le : tx.toNat ≤ 100 * i
  all : ∀ m, m < 4 → (f m).toNat ≤ tx.toNat
  hit : 0 < i → 0 < tx.toNat ∧ f (tx % 4).toNat = tx
theorem mod4 (t : UInt32) : (t % 4).toNat < 4 := by rw [UInt32.toNat_mod]; exact Nat.mod_lt _ (by decide)
theorem Rise.max {n i : Nat} {tx : UInt32} {f : Nat → UInt32} {p : PairV} (h : Rise n i tx f p) (hi : 0 < i) : maxL (lastL f) = tx.toNat := by
  have h0 := h.all 0 (by decide)
  have h1 := h.all 1 (by decide)
  have h2 := h.all 2 (by decide)
  have h3 := h.all 3 (by decide)
  have e := congrArg UInt32.toNat (h.hit hi).2
  have h4 := mod4 tx
  unfold maxL lastL
  generalize (tx % 4).toNat = m at *
  obtain rfl | rfl | rfl | rfl : m = 0 ∨ m = 1 ∨ m = 2 ∨ m = 3 := by omega
  all_goals omega
def fC (f : Nat → UInt32) : List Value := [v32 (f 0), v32 (f 1), v32 (f 2), v32 (f 3)]
theorem fC_get (f : Nat → UInt32) (m : Nat) (h : m < 4) : (fC f)[m]? = some (v32 (f m)) := by
  obtain rfl | rfl | rfl | rfl : m = 0 ∨ m = 1 ∨ m = 2 ∨ m = 3 := by omega
  all_goals rfl
theorem fC_put (f : Nat → UInt32) (t : UInt32) : splice (fC f) (0 + (t % 4).toNat * 1) [v32 t] = fC (putF f t) := by
  have h := mod4 t
  unfold fC putF
  generalize (t % 4).toNat = m at *
  obtain rfl | rfl | rfl | rfl : m = 0 ∨ m = 1 ∨ m = 2 ∨ m = 3 := by omega
  all_goals rfl

theorem Rise.next {n i k : Nat} {tx t : UInt32} {f : Nat → UInt32} {p s : PairV} (h : Rise n i tx f p) (hi : i < 1000) (ht : t.toNat = tx.toNat + k) (hk : 1 ≤ k ∧ k ≤ 100) (hrt : (plainA t (UInt16.ofNat n) 3 t).right = true) (hn1 : n ≤ 64) (q : PutI p (plainA t (UInt16.ofNat n) 3 t) yes 2 s) : Rise n (i + 1) t (putF f t) s := by
  have ht0 : ¬ t = 0 := fun e => by have := u32_zero.2 e; omega
  have hle := h.le
  refine ⟨(h.h.put hi _ hrt (plain_size t n hn1) q).congr fun m _ => last_put n f t ht0 m, by omega, fun m hm => ?_, fun _ => ⟨by omega, ?_⟩⟩
  · unfold putF
    split
    · exact Nat.le_refl _
    · have := h.all m hm; omega
  · unfold putF; rw [if_pos rfl]

theorem c_lawDoubt (size : Int) (s : Sl Int) (hsl : s.xs.length ≤ maxLen) : Ctr Tryd.prog GW 10 [vi size, s.v] [] [Res.mem s.ba (isV s.xs)] (ret1 (vb true)) := by
  obtain ⟨ba, cap, xs⟩ := s
  dsimp only at hsl ⊢
  have hil : (isV xs).length = xs.length := isV_len xs
  refine Ctr.intro Tryd.func10 (by kernel_rfl) rfl Tryd.ntmps10 rfl rfl rfl fun w' X => ?_
  refine sw_seq ?_
  refine sw_region ?_
  refine r_assign (k := ?_)
  refine sl_nil ?_
  refine sp_then ?_
  refine sw_seq ?_
  refine sw_seq ?_
  refine sw_region ?_
  refine r_move (k := ?_)
  refine r_lss (k := ?_)
  refine r_move (k := ?_)
  by_cases g0 : size < 32
  · refine r_re (t := 19) (v' := vb true) rfl (by rw [decide_eq_true g0]) ?_
    refine gd_no (k := ?_)
    refine gd_no (k := ?_)
    refine rd_pick_t (k := ?_)
    refine r_move (k := ?_)
    refine gd_no (k := ?_)
    refine gd_no (k := ?_)
    refine gd_no (k := ?_)
    refine rd_pick_t (k := ?_)
    refine r_move (k := ?_)
    refine gd_no (k := ?_)
    refine gd_no (k := ?_)
    refine gd_no (k := ?_)
    refine rd_pick_t (k := ?_)
    refine sl_nil ?_
    refine sp_then ?_
    refine swd_t (h := ?_)
    refine sw_seq ?_
    refine sw_region ?_
    refine r_call1 c_wakes12 (by exact rfl) (by exact rfl) (by exact rfl) (by simp) (by exact rfl) ?_
    refine r_assign (k := ?_)
    refine sl_nil ?_
    refine sp_then ?_
    refine sw_ret ?_
    refine sp_then_ret ?_
    refine sp_retv rfl rfl (.tmp rfl) rfl rfl ⟨rfl, rfl, rfl⟩ (by simp) rfl (by simp)
  refine r_re (t := 19) (v' := vb false) rfl (by rw [decide_eq_false g0]) ?_
  refine gd_yes (k := ?_)
  refine r_move (k := ?_)
  refine gd_yes (k := ?_)
  refine r_gtr (k := ?_)
  refine rd_pick_f (k := ?_)
  refine r_move (k := ?_)
  by_cases g1 : 64 < size
  · refine r_re (t := 23) (v' := vb true) rfl (by rw [decide_eq_true g1]) ?_
    refine gd_no (k := ?_)
    refine gd_no (k := ?_)
    refine gd_no (k := ?_)
    refine rd_pick_t (k := ?_)
    refine r_move (k := ?_)
    refine gd_no (k := ?_)
    refine gd_no (k := ?_)
    refine gd_no (k := ?_)
    refine rd_pick_t (k := ?_)
    refine sl_nil ?_
    refine sp_then ?_
    refine swd_t (h := ?_)
    refine sw_seq ?_
    refine sw_region ?_
    refine r_call1 c_wakes12 (by exact rfl) (by exact rfl) (by exact rfl) (by simp) (by exact rfl) ?_
    refine r_assign (k := ?_)
    refine sl_nil ?_
    refine sp_then ?_
    refine sw_ret ?_
    refine sp_then_ret ?_
    refine sp_retv rfl rfl (.tmp rfl) rfl rfl ⟨rfl, rfl, rfl⟩ (by simp) rfl (by simp)
  refine r_re (t := 23) (v' := vb false) rfl (by rw [decide_eq_false g1]) ?_
  refine gd_yes (k := ?_)
  refine r_move (k := ?_)
  refine gd_yes (k := ?_)
  refine r_len (k := ?_)
  refine gd_yes (k := ?_)
  refine r_lss (k := ?_)
  refine rd_pick_f (k := ?_)
  refine r_move (k := ?_)
  by_cases g2 : (xs.length : Int) < 1
  · refine r_re (t := 28) (v' := vb true) rfl (by rw [decide_eq_true g2]) ?_
    refine gd_no (k := ?_)
    refine gd_no (k := ?_)
    refine gd_no (k := ?_)
    refine rd_pick_t (k := ?_)
    refine sl_nil ?_
    refine sp_then ?_
    refine swd_t (h := ?_)
    refine sw_seq ?_
    refine sw_region ?_
    refine r_call1 c_wakes12 (by exact rfl) (by exact rfl) (by exact rfl) (by simp) (by exact rfl) ?_
    refine r_assign (k := ?_)
    refine sl_nil ?_
    refine sp_then ?_
    refine sw_ret ?_
    refine sp_then_ret ?_
    refine sp_retv rfl rfl (.tmp rfl) rfl rfl ⟨rfl, rfl, rfl⟩ (by simp) rfl (by simp)
  refine r_re (t := 28) (v' := vb false) rfl (by rw [decide_eq_false g2]) ?_
  refine gd_yes (k := ?_)
  refine r_move (k := ?_)
  refine gd_yes (k := ?_)
  refine r_len (k := ?_)
  refine gd_yes (k := ?_)
  refine r_gtr (k := ?_)
  refine rd_pick_f (k := ?_)
  refine sl_nil ?_
  refine sp_then ?_
  by_cases g3 : (8 : Int) < (xs.length : Int)
  · refine w_re (t := 32) (v' := vb true) rfl (by rw [decide_eq_true g3]) ?_
    refine swd_t (h := ?_)
    refine sw_seq ?_
    refine sw_region ?_
    refine r_call1 c_wakes12 (by exact rfl) (by exact rfl) (by exact rfl) (by simp) (by exact rfl) ?_
    refine r_assign (k := ?_)
    refine sl_nil ?_
    refine sp_then ?_
    refine sw_ret ?_
    refine sp_then_ret ?_
    refine sp_retv rfl rfl (.tmp rfl) rfl rfl ⟨rfl, rfl, rfl⟩ (by simp) rfl (by simp)
  refine w_re (t := 32) (v' := vb false) rfl (by rw [decide_eq_false g3]) ?_
  obtain ⟨n, rfl⟩ : ∃ n : Nat, size = (n : Int) := ⟨size.toNat, by omega⟩
  have hn0 : 32 ≤ n := by omega
  have hn1 : n ≤ 64 := by omega
  refine swd_f (h := ?_)
  refine sw_skip ?_
  refine sp_then ?_
  refine sw_seq ?_
  refine sw_region ?_
  refine r_move (k := ?_)
  refine r_callF (c_pair GW n hn0 hn1) (by exact rfl) (by exact rfl) (by exact rfl) (by simp) (by exact rfl) ?_
  rintro _ _ ⟨p0, rfl, ⟨ho0, ho1⟩, hp0, hp1, rfl⟩
  have hp : p0.holds n 0 fun _ => AncP.zero := ⟨ho0, ho1, by rw [hp0]; exact holds_fresh hn0 hn1, by rw [hp1]; exact holds_fresh hn0 hn1⟩
  refine r_alloc (by exact z63) (by exact rfl) (by exact rfl) fun b5 => ?_
  refine r_store_all (k := ?_)
  refine sl_nil ?_
  refine sp_then ?_
  refine sw_seq ?_
  refine sw_region ?_
  refine r_assign (k := ?_)
  refine sl_nil ?_
  refine sp_then ?_
  refine sw_seq ?_
  refine sw_region ?_
  refine r_alloc (by exact z78) (cs := fC fun _ => 0) rfl (by exact rfl) fun b7 => ?_
  refine sl_nil ?_
  refine sp_then ?_
  refine sw_seq ?_
  refine sw_seq ?_
  refine sw_region ?_
  refine r_assign (k := ?_)
  refine sl_nil ?_
  refine sp_then ?_
  refine sw_block ?_
  refine w_have (φ := BS.nil.res) (fun V w _ i v hv => by simp [BS.nil, bv] at hv) ?_
  refine sw_loop (ι := { q : Nat × UInt32 × (Nat → UInt32) × PairV // q.1 ≤ xs.length ∧ Rise n q.1 q.2.1 q.2.2.1 q.2.2.2 })
    (fun q => [(0, vi (n : Int)), (1, .slice ba xs.length cap), (5, .pointer (some ⟨b5, 0, none⟩)), (6, v32 q.1.2.1), (7, .pointer (some ⟨b7, 0, none⟩)), (8, vi (q.1.1 : Int))])
    (fun q => [.box b7 (fC q.1.2.2.1) 78, .box b5 q.1.2.2.2.cs 63]) (fun q => [q.1.2.2.2.d0.rp, q.1.2.2.2.d0.rc, q.1.2.2.2.d0.rb, q.1.2.2.2.d1.rp, q.1.2.2.2.d1.rc, q.1.2.2.2.d1.rb, BS.nil.res, Res.mem ba (isV xs)]) (fun _ => []) (fun q => xs.length - q.1.1)
    ⟨(0, 0, fun _ => 0, p0), Nat.zero_le _, hp.congr fun m _ => rfl, Nat.zero_le _, fun m _ => Nat.zero_le _, fun h => absurd h (Nat.lt_irrefl 0)⟩ ?_ fun q => ?_
  · exact Ent.mk' (by repeat' (first | trivial | exact rfl | apply And.intro)) (by repeat' (first | trivial | exact .head _ | apply And.intro | apply List.Mem.tail))
  obtain ⟨⟨i, tx, f, p⟩, hi, hr⟩ := q
  dsimp only at hi hr ⊢
  refine sw_seq ?_
  refine sw_seq ?_
  refine sw_region ?_
  refine r_move (k := ?_)
  refine r_move (k := ?_)
  refine r_len (k := ?_)
  refine r_lss (k := ?_)
  refine sl_nil ?_
  refine sp_then ?_
  refine sw_cond rfl (fun h => ?_) (fun h => ?_)
  · have h := of_decide_eq_true h
    have hi' : i < xs.length := by omega
    refine sw_skip ?_
    refine sp_then ?_
    refine sw_seq ?_
    refine sw_block ?_
    refine sw_seq ?_
    refine sw_seq ?_
    refine sw_region ?_
    refine r_move (k := ?_)
    refine r_move (k := ?_)
    refine r_idx (k := ?_)
    have hld : (isV xs)[i * 1]? = some (vi xs[i]) := by rw [Nat.mul_one, isV, List.getElem?_map, List.getElem?_eq_getElem hi']; rfl
    refine r_load_mem1 (v := vi xs[i]) (cs := isV xs) (by exact tz rfl) (by exact rfl) (by iterate 24 (first | exact .head _ | apply List.Mem.tail | skip)) hld (by exact rfl) ?_
    refine r_lss (k := ?_)
    refine r_move (k := ?_)
    by_cases r0 : xs[i] < 1
    · refine r_re (t := 47) (v' := vb true) rfl (by rw [decide_eq_true r0]) ?_
      refine gd_no (k := ?_)
      refine gd_no (k := ?_)
      refine gd_no (k := ?_)
      refine gd_no (k := ?_)
      refine gd_no (k := ?_)
      refine rd_pick_t (k := ?_)
      refine sl_nil ?_
      refine sp_then ?_
      refine swd_t (h := ?_)
      refine sw_seq ?_
      refine sw_region ?_
      refine r_call1 c_wakes12 (by exact rfl) (by exact rfl) (by exact rfl) (by simp) (by exact rfl) ?_
      refine r_assign (k := ?_)
      refine sl_nil ?_
      refine sp_then ?_
      refine sw_ret ?_
      refine sp_then_ret ?_
      refine sp_block_ret ?_
      refine sp_then_ret ?_
      refine sp_loop_ret ?_
      refine sp_block_ret ?_
      refine sp_then_ret ?_
      refine sp_retv rfl rfl (.tmp rfl) rfl rfl ⟨rfl, rfl, rfl⟩ (by simp) rfl (by simp)
    refine r_re (t := 47) (v' := vb false) rfl (by rw [decide_eq_false r0]) ?_
    refine gd_yes (k := ?_)
    refine r_move (k := ?_)
    refine gd_yes (k := ?_)
    refine r_move (k := ?_)
    refine gd_yes (k := ?_)
    refine r_idx (k := ?_)
    refine gd_yes (k := ?_)
    refine r_load_mem1 (v := vi xs[i]) (cs := isV xs) (by exact tz rfl) (by exact rfl) (by iterate 24 (first | exact .head _ | apply List.Mem.tail | skip)) hld (by exact rfl) ?_
    refine gd_yes (k := ?_)
    refine r_gtr (k := ?_)
    refine rd_pick_f (k := ?_)
    refine sl_nil ?_
    refine sp_then ?_
    by_cases r1 : 100 < xs[i]
    · refine w_re (t := 53) (v' := vb true) rfl (by rw [decide_eq_true r1]) ?_
      refine swd_t (h := ?_)
      refine sw_seq ?_
      refine sw_region ?_
      refine r_call1 c_wakes12 (by exact rfl) (by exact rfl) (by exact rfl) (by simp) (by exact rfl) ?_
      refine r_assign (k := ?_)
      refine sl_nil ?_
      refine sp_then ?_
      refine sw_ret ?_
      refine sp_then_ret ?_
      refine sp_block_ret ?_
      refine sp_then_ret ?_
      refine sp_loop_ret ?_
      refine sp_block_ret ?_
      refine sp_then_ret ?_
      refine sp_retv rfl rfl (.tmp rfl) rfl rfl ⟨rfl, rfl, rfl⟩ (by simp) rfl (by simp)
    refine w_re (t := 53) (v' := vb false) rfl (by rw [decide_eq_false r1]) ?_
    refine swd_f (h := ?_)
    refine sw_skip ?_
    refine sp_then ?_
    refine sw_seq ?_
    refine sw_region ?_
    refine r_move (k := ?_)
    refine r_move (k := ?_)
    refine r_move (k := ?_)
    refine r_idx (k := ?_)
    refine r_load_mem1 (v := vi xs[i]) (cs := isV xs) (by exact tz rfl) (by exact rfl) (by iterate 24 (first | exact .head _ | apply List.Mem.tail | skip)) hld (by exact rfl) ?_
    obtain ⟨k, hk⟩ : ∃ k : Nat, xs[i] = (k : Int) := ⟨xs[i].toNat, by omega⟩
    rw [hk] at r0 r1 ⊢
    have hk32 : (UInt32.ofNat k).toNat = k := by simp; omega
    refine r_cv (r := ((UInt32.ofNat k).toNat : Int)) (by exact ti rfl) (by exact ti rfl) (by exact rfl) (by rw [IntKind.wrap_u32, hk32]; omega) (by exact rfl) ?_
    refine r_add32 (k := ?_)
    refine r_assign (k := ?_)
    refine sl_nil ?_
    refine sp_then ?_
    refine sw_seq ?_
    obtain ⟨t, et⟩ : ∃ t, t = tx + UInt32.ofNat k := ⟨_, rfl⟩
    rw [← et]
    have htle := hr.le
    have ht : t.toNat = tx.toNat + k := by rw [et, UInt32.toNat_add, hk32]; omega
    have ht0 : ¬ t = 0 := fun e => by have := u32_zero.2 e; omega
    have hrt : (plainA t (UInt16.ofNat n) 3 t).right = true := plain_right t n hn0 hn1 (by omega) (by omega)
    have het : (encV (plainA t (UInt16.ofNat n) 3 t)).2 = 0 := by unfold encV; rw [if_pos hrt]
    have hc0 : p.d0.cache.xs.length < 1000 := Nat.lt_of_le_of_lt hr.h.h0.cache (by omega)
    have hc1 : p.d1.cache.xs.length < 1000 := Nat.lt_of_le_of_lt hr.h.h1.cache (by omega)
    refine sw_thenE (ι := { s : PairV × Nat // Rise n (i + 1) t (putF f t) s.1 }) (fun s => [(0, vi (n : Int)), (1, .slice ba xs.length cap), (5, .pointer (some ⟨b5, 0, none⟩)), (6, v32 t), (7, .pointer (some ⟨b7, 0, none⟩)), (8, vi (i : Int)), (9, .pointer (some ⟨s.1.2, 0, none⟩)), (10, vi 0)]) (fun s => [.box s.1.2 s.1.1.cs 63, .box b7 (fC f) 78, .box b5 p.cs 63])
      (fun s => [s.1.1.d0.rp, s.1.1.d0.rc, s.1.1.d0.rb, s.1.1.d1.rp, s.1.1.d1.rc, s.1.1.d1.rb, BS.nil.res, Res.mem ba (isV xs)]) [] ?_ fun s => ?_
    · 
      refine sw_draw [(none, .box b7 (fC f) 78), (none, .box b5 p.cs 63)] [] [0, 1, 2, 3, 4, 5, 6, 7, 8, 9, 10] mix (by kernel_rfl) rfl ?_
      refine ra_first 0 [(none, .box b7 (fC f) 78), (none, .box b5 p.cs 63)] [1, 2, 3, 4, 5, 6, 7, 8, 9, 10] (hq := by exact q_load_all (cs := p.cs) (by exact tz rfl) (by exact rfl) (.tail _ (.head _)) rfl) (k := ?_)
      refine ra_first 1 [] [2, 3, 4, 5, 6, 7, 8, 9, 10] (hq := by exact q_move) (k := ?_)
      refine ra_first 2 [] [3, 4, 5, 6, 7, 8, 9, 10] (hq := by exact q_move) (k := ?_)
      refine ra2 (i := 3) (j := 8) [4, 5, 6, 7, 8, 9, 10] [3, 4, 5, 6, 7, 9, 10] (by kernel_rfl) rfl rfl rfl rfl ?_ ?_
      · 
        refine r_call1 (c_plain3 GW t n hn1) (by exact rfl) (by exact rfl) (by exact rfl) (by simp) (by exact rfl) ?_
        refine sl_nil ?_
        refine sp_nx (k := ?_)
        refine ra2 (i := 4) (j := 8) [5, 6, 7, 8, 9, 10] [4, 5, 6, 7, 9, 10] (by kernel_rfl) rfl rfl rfl rfl ?_ ?_
        · 
          refine r_callF (c_rput p hr.h.o0 hr.h.o1 (by rw [hr.h.live]; decide) (plainA t (UInt16.ofNat n) 3 t) ⟨Nat.le_refl _, Nat.zero_le _⟩ hc0 hc1) (by exact rfl) (by exact rfl) (by exact rfl) (PhAll.all (by repeat' (first | trivial | exact .head _ | apply And.intro | apply List.Mem.tail))) (by exact rfl) ?_
          rintro _ _ ⟨s, rfl, hs, rfl⟩
          refine sl_nil ?_
          refine sp_nx (k := ?_)
          refine ra_first 5 [] [6, 7, 8, 9, 10] (hq := by exact q_move) (k := ?_)
          refine ra_first 6 [] [7, 8, 9, 10] (hq := by exact q_ext) (k := ?_)
          refine ra_first 7 [] [8, 9, 10] (hq := by exact q_ext) (k := ?_)
          refine ra1 (i := 8) [9, 10] (h := ?_)
          refine r_alloc (by exact z63) (by exact rfl) (by exact rfl) fun b9 => ?_
          refine sl_nil ?_
          refine sp_nx (k := ?_)
          refine ra1 (i := 9) [10] (h := ?_)
          refine r_store_all (k := ?_)
          refine sl_nil ?_
          refine sp_nx (k := ?_)
          refine ra_first 10 [] [] (hq := by exact q_assign) (k := ?_)
          refine ra_done ?_
          refine sp_re (t := 10) (v' := vi 0) rfl (by rw [het]) ?_
          exact sp_cutE ⟨(s, b9), hr.next (by omega) ht (by omega) hrt hn1 hs⟩ (by repeat' (first | trivial | exact rfl | apply And.intro)) (by repeat' (first | trivial | exact .head _ | apply And.intro | apply List.Mem.tail)) rfl
        · 
          refine r_alloc (by exact z63) (by exact rfl) (by exact rfl) fun b9 => ?_
          refine sl_nil ?_
          refine sp_nx (k := ?_)
          refine ra1 (i := 4) [5, 6, 7, 9, 10] (h := ?_)
          refine r_callF (c_rput p hr.h.o0 hr.h.o1 (by rw [hr.h.live]; decide) (plainA t (UInt16.ofNat n) 3 t) ⟨Nat.le_refl _, Nat.zero_le _⟩ hc0 hc1) (by exact rfl) (by exact rfl) (by exact rfl) (PhAll.all (by repeat' (first | trivial | exact .head _ | apply And.intro | apply List.Mem.tail))) (by exact rfl) ?_
          rintro _ _ ⟨s, rfl, hs, rfl⟩
          refine sl_nil ?_
          refine sp_nx (k := ?_)
          refine ra_first 5 [] [6, 7, 9, 10] (hq := by exact q_move) (k := ?_)
          refine ra_first 6 [] [7, 9, 10] (hq := by exact q_ext) (k := ?_)
          refine ra_first 7 [] [9, 10] (hq := by exact q_ext) (k := ?_)
          refine ra1 (i := 9) [10] (h := ?_)
          refine r_store_all (k := ?_)
          refine sl_nil ?_
          refine sp_nx (k := ?_)
          refine ra_first 10 [] [] (hq := by exact q_assign) (k := ?_)
          refine ra_done ?_
          refine sp_re (t := 10) (v' := vi 0) rfl (by rw [het]) ?_
          exact sp_cutE ⟨(s, b9), hr.next (by omega) ht (by omega) hrt hn1 hs⟩ (by repeat' (first | trivial | exact rfl | apply And.intro)) (by repeat' (first | trivial | exact .head _ | apply And.intro | apply List.Mem.tail)) rfl
      · 
        refine r_alloc (by exact z63) (by exact rfl) (by exact rfl) fun b9 => ?_
        refine sl_nil ?_
        refine sp_nx (k := ?_)
        refine ra1 (i := 3) [4, 5, 6, 7, 9, 10] (h := ?_)
        refine r_call1 (c_plain3 GW t n hn1) (by exact rfl) (by exact rfl) (by exact rfl) (by simp) (by exact rfl) ?_
        refine sl_nil ?_
        refine sp_nx (k := ?_)
        refine ra1 (i := 4) [5, 6, 7, 9, 10] (h := ?_)
        refine r_callF (c_rput p hr.h.o0 hr.h.o1 (by rw [hr.h.live]; decide) (plainA t (UInt16.ofNat n) 3 t) ⟨Nat.le_refl _, Nat.zero_le _⟩ hc0 hc1) (by exact rfl) (by exact rfl) (by exact rfl) (PhAll.all (by repeat' (first | trivial | exact .head _ | apply And.intro | apply List.Mem.tail))) (by exact rfl) ?_
        rintro _ _ ⟨s, rfl, hs, rfl⟩
        refine sl_nil ?_
        refine sp_nx (k := ?_)
        refine ra_first 5 [] [6, 7, 9, 10] (hq := by exact q_move) (k := ?_)
        refine ra_first 6 [] [7, 9, 10] (hq := by exact q_ext) (k := ?_)
        refine ra_first 7 [] [9, 10] (hq := by exact q_ext) (k := ?_)
        refine ra1 (i := 9) [10] (h := ?_)
        refine r_store_all (k := ?_)
        refine sl_nil ?_
        refine sp_nx (k := ?_)
        refine ra_first 10 [] [] (hq := by exact q_assign) (k := ?_)
        refine ra_done ?_
        refine sp_re (t := 10) (v' := vi 0) rfl (by rw [het]) ?_
        exact sp_cutE ⟨(s, b9), hr.next (by omega) ht (by omega) hrt hn1 hs⟩ (by repeat' (first | trivial | exact rfl | apply And.intro)) (by repeat' (first | trivial | exact .head _ | apply And.intro | apply List.Mem.tail)) rfl
    obtain ⟨⟨s, b9⟩, hs⟩ := s
    dsimp only at hs ⊢
    refine sw_seq ?_
    refine sw_seq ?_
    refine sw_region ?_
    refine r_move (k := ?_)
    refine r_neq (k := ?_)
    refine sl_nil ?_
    refine sp_then ?_
    refine w_re (t := 71) (v' := vb false) rfl rfl ?_
    refine swd_f (h := ?_)
    refine sw_skip ?_
    refine sp_then ?_
    refine sw_seq ?_
    refine sw_region ?_
    refine r_move (k := ?_)
    refine r_call1 (c_r9slot GW t) (by exact rfl) (by exact rfl) (by exact rfl) (by simp) (by exact rfl) ?_
    have h4 := mod4 t
    refine r_move (k := ?_)
    refine r_idx_arr (k := ?_)
    refine r_store (vs := [v32 t]) (cs' := fC (putF f t)) (by exact tz rfl) (by exact rfl) (by exact rfl) (by iterate 24 (first | exact .hd | apply Upd.tl | skip)) rfl rfl rfl (by simp [fC]; omega) (fC_put f t) ?_
    refine sl_nil ?_
    refine sp_then ?_
    refine sw_region ?_
    refine r_load_all (k := ?_)
    refine r_store_all (k := ?_)
    refine sl_nil ?_
    refine sp_block ?_
    refine sp_then ?_
    refine sw_region ?_
    refine r_move (k := ?_)
    refine r_add64 (k := ?_)
    refine r_assign (k := ?_)
    refine sl_nil ?_
    refine sp_drop rfl ?_
    refine sp_loop (ι := { q : Nat × UInt32 × (Nat → UInt32) × PairV // q.1 ≤ xs.length ∧ Rise n q.1 q.2.1 q.2.2.1 q.2.2.2 }) ⟨(i + 1, t, putF f t, s), by omega, hs⟩ ?_ ?_
    · dsimp only; omega
    · exact Ent.mk' (by repeat' (first | trivial | exact rfl | apply And.intro)) (by repeat' (first | trivial | exact .head _ | apply And.intro | apply List.Mem.tail))
  · have h := of_decide_eq_false h
    obtain rfl : i = xs.length := by omega
    have hL := last_an n f
    refine sw_exit ?_
    refine sp_then_exit ?_
    refine sp_loop_exit ?_
    refine sp_block_exit ?_
    refine sp_then ?_
    refine sw_seq ?_
    refine sw_region ?_
    refine r_assign (k := ?_)
    refine sl_nil ?_
    refine sp_then ?_
    refine sw_seq ?_
    refine sw_region ?_
    refine r_load_all (k := ?_)
    refine r_callF (c_slots p hr.h.o0 hr.h.o1) (by exact rfl) (by exact rfl) (by exact rfl) (PhAll.all (by repeat' (first | trivial | exact .head _ | apply And.intro | apply List.Mem.tail))) (by exact rfl) ?_
    rintro _ _ ⟨A, rfl, hA, -, rfl⟩
    obtain ⟨hA8, hS⟩ := hr.h.sym hA hL
    have hl : (ancsV A).length = 112 := by rw [ancsV_len, hA8]
    refine r_alloc (v := .agg (ancsV (List.replicate 8 zeroA)).toArray) (by kernel_rfl) (cs := ancsV (List.replicate 8 zeroA)) rfl (by exact rfl) fun b12 => ?_
    refine r_store_all (cs := ancsV (List.replicate 8 zeroA)) (vs := ancsV A) (by exact tz rfl) (by exact rfl) (by exact rfl) (by iterate 24 (first | exact .hd | apply Upd.tl | skip)) rfl hl (ancsV_one A) rfl ?_
    refine sl_nil ?_
    refine sp_then ?_
    refine sw_seq ?_
    refine sw_seq ?_
    refine sw_region ?_
    refine r_assign (k := ?_)
    refine sl_nil ?_
    refine sp_then ?_
    refine sw_block ?_
    have hth : (NSt.all A).th = fun j => decide (j < 4 ∧ ¬ lastL f j = 0) := (nums_all hA8 hS).th
    generalize eth : (fun j => decide (j < 4 ∧ ¬ lastL f j = 0)) = th at hth
    refine sw_loop (ι := { m : Nat // m ≤ 4 }) (fun m => [(5, .pointer (some ⟨b5, 0, none⟩)), (6, v32 tx), (7, .pointer (some ⟨b7, 0, none⟩)), (11, vi (doubtN th m.1 : Nat)), (12, .pointer (some ⟨b12, 0, none⟩)), (13, vi (m.1 : Int))])
      (fun _ => [.box b12 (ancsV A) 73, .box b7 (fC f) 78, .box b5 p.cs 63]) (fun _ => [p.d0.rp, p.d0.rc, p.d0.rb, p.d1.rp, p.d1.rc, p.d1.rb]) (fun _ => []) (fun m => 4 - m.1) ⟨0, by omega⟩ ?_ fun m => ?_
    · exact Ent.mk' (by repeat' (first | trivial | exact rfl | apply And.intro)) (by repeat' (first | trivial | exact .head _ | apply And.intro | apply List.Mem.tail))
    obtain ⟨m, hm⟩ := m
    dsimp only
    have hdl := doubtN_le th m
    refine sw_seq ?_
    refine sw_seq ?_
    refine sw_region ?_
    refine r_move (k := ?_)
    refine r_lss (k := ?_)
    refine sl_nil ?_
    refine sp_then ?_
    refine sw_cond rfl (fun h => ?_) (fun h => ?_)
    · have h := of_decide_eq_true h
      have hm' : m < 4 := by omega
      have hfm : (fC f)[0 + m * 1]? = some (v32 (f m)) := by rw [Nat.zero_add, Nat.mul_one, fC_get f m hm']
      refine sw_skip ?_
      refine sp_then ?_
      refine sw_seq ?_
      refine sw_block ?_
      refine sw_seq ?_
      refine sw_seq ?_
      refine sw_region ?_
      refine r_move (k := ?_)
      refine r_idx_arr (k := ?_)
      refine r_load_one (v := v32 (f m)) (by exact tz rfl) (by exact rfl) (by iterate 24 (first | exact .head _ | apply List.Mem.tail | skip)) hfm (by exact rfl) ?_
      refine r_eql (k := ?_)
      refine sl_nil ?_
      refine sp_then ?_
      refine sw_then [(5, .pointer (some ⟨b5, 0, none⟩)), (6, v32 tx), (7, .pointer (some ⟨b7, 0, none⟩)), (11, vi (doubtN th (m + 1) : Nat)), (12, .pointer (some ⟨b12, 0, none⟩)), (13, vi (m : Int))] [.box b12 (ancsV A) 73, .box b7 (fC f) 78, .box b5 p.cs 63] [p.d0.rp, p.d0.rc, p.d0.rb, p.d1.rp, p.d1.rc, p.d1.rb] [] ?_ ?_
      · by_cases hf : (f m).toNat = 0
        · have e : doubtN th (m + 1) = doubtN th m + 1 := by
            rw [doubtN, if_neg (by rw [← eth]; simp [lastL, hf])]
          refine w_re (t := 86) (v' := vb true) rfl (by simp [hf]) ?_
          refine swd_t (h := ?_)
          refine sw_region ?_
          refine r_move (k := ?_)
          refine r_add64 (k := ?_)
          refine r_assign (k := ?_)
          refine sl_nil ?_
          refine sp_re (t := 11) (v' := vi (doubtN th (m + 1) : Nat)) rfl (by rw [e]; rfl) ?_
          exact sp_cut (by repeat' (first | trivial | exact rfl | apply And.intro)) (by repeat' (first | trivial | exact .head _ | apply And.intro | apply List.Mem.tail))
        · have e : doubtN th (m + 1) = doubtN th m := by
            rw [doubtN, if_pos (by rw [← eth]; simp [lastL, hf, hm'])]; rfl
          refine w_re (t := 86) (v' := vb false) rfl (by simp [hf]) ?_
          refine swd_f (h := ?_)
          refine sw_skip ?_
          refine sp_re (t := 11) (v' := vi (doubtN th (m + 1) : Nat)) rfl (by rw [e]) ?_
          exact sp_cut (by repeat' (first | trivial | exact rfl | apply And.intro)) (by repeat' (first | trivial | exact .head _ | apply And.intro | apply List.Mem.tail))
      have hy0 : (atA A false m).tx.toNat = (f m).toNat := (hS false m hm').1
      have hy1 : (atA A true m).tx.toNat = (f m).toNat := (hS true m hm').1
      have ha0 : (ancsV A)[0 + 0 * 56 + m * 14 + 0]? = some (v32 (atA A false m).tx) := by
        rw [show 0 + 0 * 56 + m * 14 + 0 = m * 14 by omega, ancsV_tx A m (by omega)]
        simp [atA, bN, List.getD, show m < A.length by omega]
      have ha1 : (ancsV A)[0 + 1 * 56 + m * 14 + 0]? = some (v32 (atA A true m).tx) := by
        rw [show 0 + 1 * 56 + m * 14 + 0 = (4 + m) * 14 by omega, ancsV_tx A (4 + m) (by omega)]
        simp [atA, bN, List.getD, show 4 + m < A.length by omega]
      refine sw_seq ?_
      
      refine sw_draw [(none, .box b12 (ancsV A) 73), (none, .box b7 (fC f) 78)] [] [0, 1, 2, 3, 4, 5, 6, 7, 8, 9, 10, 11, 12, 13, 14, 15, 16, 17, 18, 19, 20, 21, 22, 23, 24, 25, 26, 27, 28, 29] mix (by kernel_rfl) rfl ?_
      refine ra_first 0 [] [1, 2, 3, 4, 5, 6, 7, 8, 9, 10, 11, 12, 13, 14, 15, 16, 17, 18, 19, 20, 21, 22, 23, 24, 25, 26, 27, 28, 29] (hq := by exact q_move) (k := ?_)
      refine ra_first 1 [] [2, 3, 4, 5, 6, 7, 8, 9, 10, 11, 12, 13, 14, 15, 16, 17, 18, 19, 20, 21, 22, 23, 24, 25, 26, 27, 28, 29] (hq := by exact q_idx_arr (i := 0) (m := 0) (by exact ta rfl) (by exact rfl) (by exact rfl) (by decide) (by decide) rfl) (k := ?_)
      refine ra_first 2 [] [3, 4, 5, 6, 7, 8, 9, 10, 11, 12, 13, 14, 15, 16, 17, 18, 19, 20, 21, 22, 23, 24, 25, 26, 27, 28, 29] (hq := by exact q_idx_arr (i := m) (m := (m : Int)) (by exact ta rfl) (by exact rfl) (by exact rfl) (by omega) (by omega) (Int.toNat_natCast m)) (k := ?_)
      refine ra_first 3 [] [4, 5, 6, 7, 8, 9, 10, 11, 12, 13, 14, 15, 16, 17, 18, 19, 20, 21, 22, 23, 24, 25, 26, 27, 28, 29] (hq := by exact q_fieldAddr) (k := ?_)
      refine ra_first 4 [(none, .box b12 (ancsV A) 73), (none, .box b7 (fC f) 78)] [5, 6, 7, 8, 9, 10, 11, 12, 13, 14, 15, 16, 17, 18, 19, 20, 21, 22, 23, 24, 25, 26, 27, 28, 29] (hq := by exact q_load_one (v := v32 (atA A false m).tx) (by exact tz rfl) (by exact rfl) (.head _) ha0) (k := ?_)
      refine ra_first 5 [] [6, 7, 8, 9, 10, 11, 12, 13, 14, 15, 16, 17, 18, 19, 20, 21, 22, 23, 24, 25, 26, 27, 28, 29] (hq := by exact q_move) (k := ?_)
      refine ra_first 6 [] [7, 8, 9, 10, 11, 12, 13, 14, 15, 16, 17, 18, 19, 20, 21, 22, 23, 24, 25, 26, 27, 28, 29] (hq := by exact q_idx_arr (i := m) (m := (m : Int)) (by exact ta rfl) (by exact rfl) (by exact rfl) (by omega) (by omega) (Int.toNat_natCast m)) (k := ?_)
      refine ra_first 7 [(none, .box b12 (ancsV A) 73), (none, .box b7 (fC f) 78)] [8, 9, 10, 11, 12, 13, 14, 15, 16, 17, 18, 19, 20, 21, 22, 23, 24, 25, 26, 27, 28, 29] (hq := by exact q_load_one (v := v32 (f m)) (by exact tz rfl) (by exact rfl) (.tail _ (.head _)) hfm) (k := ?_)
      refine ra_first 8 [] [9, 10, 11, 12, 13, 14, 15, 16, 17, 18, 19, 20, 21, 22, 23, 24, 25, 26, 27, 28, 29] (hq := by exact q_neq) (k := ?_)
      refine ra_first 9 [] [10, 11, 12, 13, 14, 15, 16, 17, 18, 19, 20, 21, 22, 23, 24, 25, 26, 27, 28, 29] (hq := by exact q_move) (k := ?_)
      refine ra_re (t := 98) (v' := vb false) rfl (by simp [hy0]) ?_
      
      refine ra_firstg 10 [] [11, 12, 13, 14, 15, 16, 17, 18, 19, 20, 21, 22, 23, 24, 25, 26, 27, 28, 29] (hq := by exact q_move) (k := ?_)
      refine ra_firstg 11 [] [12, 13, 14, 15, 16, 17, 18, 19, 20, 21, 22, 23, 24, 25, 26, 27, 28, 29] (hq := by exact q_idx_arr (i := 1) (m := 1) (by exact ta rfl) (by exact rfl) (by exact rfl) (by decide) (by decide) rfl) (k := ?_)
      refine ra_firstg 12 [] [13, 14, 15, 16, 17, 18, 19, 20, 21, 22, 23, 24, 25, 26, 27, 28, 29] (hq := by exact q_idx_arr (i := m) (m := (m : Int)) (by exact ta rfl) (by exact rfl) (by exact rfl) (by omega) (by omega) (Int.toNat_natCast m)) (k := ?_)
      refine ra_firstg 13 [] [14, 15, 16, 17, 18, 19, 20, 21, 22, 23, 24, 25, 26, 27, 28, 29] (hq := by exact q_fieldAddr) (k := ?_)
      refine ra_firstg 14 [(none, .box b12 (ancsV A) 73), (none, .box b7 (fC f) 78)] [15, 16, 17, 18, 19, 20, 21, 22, 23, 24, 25, 26, 27, 28, 29] (hq := by exact q_load_one (v := v32 (atA A true m).tx) (by exact tz rfl) (by exact rfl) (.head _) ha1) (k := ?_)
      refine ra_firstg 15 [] [16, 17, 18, 19, 20, 21, 22, 23, 24, 25, 26, 27, 28, 29] (hq := by exact q_move) (k := ?_)
      refine ra_firstg 16 [] [17, 18, 19, 20, 21, 22, 23, 24, 25, 26, 27, 28, 29] (hq := by exact q_idx_arr (i := m) (m := (m : Int)) (by exact ta rfl) (by exact rfl) (by exact rfl) (by omega) (by omega) (Int.toNat_natCast m)) (k := ?_)
      refine ra_firstg 17 [(none, .box b12 (ancsV A) 73), (none, .box b7 (fC f) 78)] [18, 19, 20, 21, 22, 23, 24, 25, 26, 27, 28, 29] (hq := by exact q_load_one (v := v32 (f m)) (by exact tz rfl) (by exact rfl) (.tail _ (.head _)) hfm) (k := ?_)
      refine ra_firstg 18 [] [19, 20, 21, 22, 23, 24, 25, 26, 27, 28, 29] (hq := by exact q_neq) (k := ?_)
      refine ra_first 19 [] [20, 21, 22, 23, 24, 25, 26, 27, 28, 29] (hq := by first | exact q_pick_t | exact q_pick_f) (k := ?_)
      refine ra_first 20 [] [21, 22, 23, 24, 25, 26, 27, 28, 29] (hq := by exact q_move) (k := ?_)
      refine ra_re (t := 109) (v' := vb false) rfl (by simp [hy1]) ?_
      
      refine ra_firstg 21 [(none, .box b12 (ancsV A) 73), (none, .box b7 (fC f) 78)] [22, 23, 24, 25, 26, 27, 28, 29] (hq := by exact q_load_all (cs := ancsV A) (by exact tz rfl) (by exact rfl) (.head _) hl) (k := ?_)
      refine ra_firstg 22 [] [23, 24, 25, 26, 27, 28, 29] (hq := by exact q_move) (k := ?_)
      refine ra1 (i := 23) [24, 25, 26, 27, 28, 29] (h := ?_)
      refine gd_yes (k := ?_)
      refine r_call1 (c_void GW A hA8 false m hm') (by exact rfl) (by exact rfl) (by exact rfl) (by simp) (by exact rfl) ?_
      rw [void_sym hA8 hS]
      refine sl_nil ?_
      refine sp_nx (k := ?_)
      refine ra_first 24 [] [25, 26, 27, 28, 29] (hq := by first | exact q_pick_t | exact q_pick_f) (k := ?_)
      refine ra_first 25 [] [26, 27, 28, 29] (hq := by exact q_move) (k := ?_)
      
      refine ra_firstg 26 [(none, .box b12 (ancsV A) 73), (none, .box b7 (fC f) 78)] [27, 28, 29] (hq := by exact q_load_all (cs := ancsV A) (by exact tz rfl) (by exact rfl) (.head _) hl) (k := ?_)
      refine ra_firstg 27 [] [28, 29] (hq := by exact q_move) (k := ?_)
      refine ra1 (i := 28) [29] (h := ?_)
      refine gd_yes (k := ?_)
      refine r_call1 (c_void GW A hA8 true m hm') (by exact rfl) (by exact rfl) (by exact rfl) (by simp) (by exact rfl) ?_
      rw [void_sym hA8 hS]
      refine sl_nil ?_
      refine sp_nx (k := ?_)
      refine ra_first 29 [] [] (hq := by first | exact q_pick_t | exact q_pick_f) (k := ?_)
      refine ra_done ?_
      refine sp_then ?_
      refine swd_f (h := ?_)
      refine sw_skip ?_
      refine sp_block ?_
      refine sp_then ?_
      refine sw_region ?_
      refine r_move (k := ?_)
      refine r_add64 (k := ?_)
      refine r_assign (k := ?_)
      refine sl_nil ?_
      refine sp_loop (ι := { m : Nat // m ≤ 4 }) ⟨m + 1, by omega⟩ ?_ ?_
      · dsimp only; omega
      · exact Ent.mk' (by repeat' (first | trivial | exact rfl | apply And.intro)) (by repeat' (first | trivial | exact .head _ | apply And.intro | apply List.Mem.tail))
    have h := of_decide_eq_false h
    obtain rfl : m = 4 := by omega
    refine sw_exit ?_
    refine sp_then_exit ?_
    refine sp_loop_exit ?_
    refine sp_block_exit ?_
    refine sp_then ?_
    refine sw_seq ?_
    refine sw_region ?_
    refine r_load_all (k := ?_)
    refine r_callF (c_newestR p hr.h.o0 hr.h.o1) (by exact rfl) (by exact rfl) (by exact rfl) (PhAll.all (by repeat' (first | trivial | exact .head _ | apply And.intro | apply List.Mem.tail))) (by exact rfl) ?_
    rintro _ _ ⟨A2, a2, rfl, hA2, hak2, ha2, rfl⟩
    obtain ⟨hA28, hS2⟩ := hr.h.sym hA2 hL
    have hmx : maxL (lastL f) = tx.toNat := hr.max (by omega)
    have hpos : 0 < tx.toNat := (hr.hit (by omega)).1
    have f1 : newE (liveN p) (NSt.all A2) = 0 := by rw [newE_sym (by rw [hr.h.live]; decide) hA28 hS2, if_neg (by omega)]
    have f2 : doubtN (NSt.all A2).th 4 = doubtN th 4 := by rw [(nums_all hA28 hS2).th, eth]
    have f3 : a2.tx.toNat = tx.toNat := by rw [ha2 f1, (nums_all hA28 hS2).a, hmx]
    rw [f1, f2]
    refine r_move (k := ?_)
    refine r_ext (k := ?_)
    refine r_ext (k := ?_)
    refine r_ext (k := ?_)
    refine r_alloc (by exact z32) (cs := zeroA.cs) (by kernel_rfl) (by exact rfl) fun b14 => ?_
    refine r_store_all (cs := zeroA.cs) (vs := a2.cs) (by exact tz rfl) (by exact rfl) (by exact rfl) (by iterate 24 (first | exact .hd | apply Upd.tl | skip)) rfl rfl rfl rfl ?_
    refine r_assign (k := ?_)
    refine r_assign (k := ?_)
    refine sl_nil ?_
    refine sp_then ?_
    refine sw_seq ?_
    refine sw_region ?_
    refine r_move (k := ?_)
    refine r_eql (k := ?_)
    refine r_move (k := ?_)
    refine r_re (t := 127) (v' := vb true) rfl rfl ?_
    refine gd_yes (k := ?_)
    refine r_fieldAddr (k := ?_)
    refine gd_yes (k := ?_)
    refine r_load_one (k := ?_)
    refine gd_yes (k := ?_)
    refine r_move (k := ?_)
    refine gd_yes (k := ?_)
    refine r_eql (k := ?_)
    refine rd_pick_t (k := ?_)
    refine r_move (k := ?_)
    refine r_re (t := 133) (v' := vb true) rfl (by simp [f3]) ?_
    refine gd_yes (k := ?_)
    refine r_move (k := ?_)
    refine gd_yes (k := ?_)
    refine r_move (k := ?_)
    refine gd_yes (k := ?_)
    refine r_eql (k := ?_)
    refine rd_pick_t (k := ?_)
    refine r_move (k := ?_)
    refine r_re (t := 138) (v' := vb true) rfl (by simp) ?_
    refine gd_yes (k := ?_)
    refine r_call1 c_wakes12 (by exact rfl) (by exact rfl) (by exact rfl) (by simp) (by exact rfl) ?_
    refine rd_pick_t (k := ?_)
    refine r_assign (k := ?_)
    refine sl_nil ?_
    refine sp_then ?_
    refine sw_ret ?_
    refine sp_retv rfl rfl (.tmp rfl) rfl rfl ⟨rfl, rfl, rfl⟩ (by simp) rfl (by simp)
end Go.Proofs.YtjahiohlekdhoaaDoor

namespace Go.Proofs.YtjahiohlekdhoaaDoor
open Go
set_option maxHeartbeats 4000000
set_option maxRecDepth 4000
attribute [local irreducible] SW SL SP RA Then FQ IQ LoopQ RQ AQ NX CutQ Exit.noGoto

section
variable {α : Type} {cs : α → List Value} {n : Nat}
theorem fm_set (L : List α) (i : Nat) (a : α) (h : ∀ x ∈ L, (cs x).length = n) (ha : (cs a).length = n) (hi : i < L.length) (rest : List Value) : splice (L.flatMap cs ++ rest) (i * n) (cs a) = (L.set i a).flatMap cs ++ rest := by
  have e0 : L.flatMap cs = (L.take i).flatMap cs ++ (L.drop i).flatMap cs := by rw [← List.flatMap_append, List.take_append_drop]
  have h1 : ((L.take i).flatMap cs).length = i * n := by
    rw [fm_len (n := n) _ fun x hx => h x (List.take_subset _ _ hx), List.length_take, Nat.min_eq_left (by omega)]
  have e1 : (L.flatMap cs ++ rest).take (i * n) = (L.take i).flatMap cs := by rw [e0, List.append_assoc, ← h1, List.take_left]
  have h2 : (L.flatMap cs).length = L.length * n := fm_len L h
  have e2 : (L.flatMap cs ++ rest).drop (i * n + (cs a).length) = (L.drop (i + 1)).flatMap cs ++ rest := by
    rw [ha, show i * n + n = (i + 1) * n by rw [Nat.add_mul, Nat.one_mul], List.drop_append_of_le_length (by rw [h2]; exact Nat.mul_le_mul_right n hi), fm_drop L (i + 1) h]
  rw [splice, e1, e2, List.set_eq_take_append_cons_drop, if_pos hi]
  simp [List.flatMap_append]
end

theorem c_indexF0 (G : Res) (ba : Option Addr) (cap : Nat) (f : Value) : Ctr Tryd.prog G 127 [.slice ba 0 cap, f] [] [] (ret1 (vi (-1))) := by
  refine Ctr.intro Tryd.func127 (by kernel_rfl) rfl Tryd.ntmps127 rfl rfl rfl fun w' X => ?_
  refine sw_seq ?_
  refine sw_region ?_
  refine r_assign (k := ?_)
  refine sl_nil ?_
  refine sp_then ?_
  refine sw_seq ?_
  refine sw_seq ?_
  refine sw_region ?_
  refine r_move (k := ?_)
  refine r_len (k := ?_)
  refine r_move (k := ?_)
  refine sl_nil ?_
  refine sp_then ?_
  refine sw_block ?_
  refine sw_loop (ι := Unit) (fun _ => [(7, vi 0), (8, vi 0)]) (fun _ => []) (fun _ => []) (fun _ => []) (fun _ => 0) () ?_ fun _ => ?_
  · exact Ent.mk' (by repeat' (first | trivial | exact rfl | apply And.intro)) (by repeat' (first | trivial | exact .head _ | apply And.intro | apply List.Mem.tail))
  refine sw_seq ?_
  refine sw_region ?_
  refine r_lss (k := ?_)
  refine sl_nil ?_
  refine sp_then ?_
  refine sw_seq ?_
  refine w_re (t := 9) (v' := vb false) rfl rfl ?_
  refine swd_f (h := ?_)
  refine sw_exit ?_
  refine sp_then_exit ?_
  refine sp_loop_exit ?_
  refine sp_block_exit ?_
  refine sp_then ?_
  refine sw_seq ?_
  refine sw_region ?_
  refine r_assign (k := ?_)
  refine sl_nil ?_
  refine sp_then ?_
  refine sw_ret ?_
  refine sp_retv rfl rfl (.tmp rfl) rfl rfl ⟨rfl, rfl, rfl⟩ (by simp) rfl (by simp)
theorem c_delete0 (G : Res) (ba : Option Addr) (cap : Nat) (f : Value) : Ctr Tryd.prog G 119 [.slice ba 0 cap, f] [] [] (ret1 (.slice ba 0 cap)) := by
  refine Ctr.intro Tryd.func119 (by kernel_rfl) rfl Tryd.ntmps119 rfl rfl rfl fun w' X => ?_
  refine sw_seq ?_
  refine sw_region ?_
  refine r_assign (k := ?_)
  refine sl_nil ?_
  refine sp_then ?_
  refine sw_seq ?_
  refine sw_region ?_
  refine r_move (k := ?_)
  refine r_move (k := ?_)
  refine r_call1 (c_indexF0 G ba cap f) (by exact rfl) (by exact rfl) (by exact rfl) (by simp) (by exact rfl) ?_
  refine r_assign (k := ?_)
  refine sl_nil ?_
  refine sp_then ?_
  refine sw_seq ?_
  refine sw_seq ?_
  refine sw_region ?_
  refine r_move (k := ?_)
  refine r_eql (k := ?_)
  refine sl_nil ?_
  refine sp_then ?_
  refine w_re (t := 12) (v' := vb true) rfl rfl ?_
  refine swd_t (h := ?_)
  refine sw_seq ?_
  refine sw_region ?_
  refine r_move (k := ?_)
  refine r_assign (k := ?_)
  refine sl_nil ?_
  refine sp_then ?_
  refine sw_ret ?_
  refine sp_then_ret ?_
  refine sp_retv rfl rfl (.tmp rfl) rfl rfl ⟨rfl, rfl, rfl⟩ (by simp) rfl (by simp)

def pagesAt (pg : List (List UInt8)) (l : List WrV) : List (List UInt8) := l.foldl (fun pg w => pg.set w.at'.toNat w.data) pg
/-- A disk, flushed (of one that has no bad page). -/
def DiskP.flush (d : DiskP) : DiskP := { pages := pagesAt d.pages d.cache, cache := [], bad := [], off := d.off }
structure DiskP.bare (d : DiskP) : Prop where
  c : d.cache = []
  b : d.bad = []
theorem pagesAt_len (l : List WrV) : ∀ pg : List (List UInt8), (pagesAt pg l).length = pg.length := by
  induction l with
  | nil => intro _; rfl
  | cons w l ih => intro pg; exact (ih _).trans (List.length_set)
theorem pagesAt_h (l : List WrV) (hl : ∀ x ∈ l, x.data.length = 256) : ∀ pg : List (List UInt8), (∀ x ∈ pg, x.length = 256) → ∀ x ∈ pagesAt pg l, x.length = 256 := by
  induction l with
  | nil => intro pg h x hx; exact h x hx
  | cons w l ih =>
    intro pg h x hx
    refine ih (fun y hy => hl y (.tail _ hy)) _ (fun y hy => ?_) x hx
    rcases List.mem_or_eq_of_mem_set hy with h' | h'
    · exact h y h'
    · rw [h']; exact hl w (.head _)
theorem pagesAt_take (pg : List (List UInt8)) (l : List WrV) (i : Nat) (h : i < l.length) : pagesAt pg (l.take (i + 1)) = (pagesAt pg (l.take i)).set l[i].at'.toNat l[i].data := by
  unfold pagesAt
  rw [List.take_succ_eq_append_getElem h, List.foldl_append]
  rfl
theorem flush_fine {d : DiskP} (h : d.fine) : d.flush.fine := by
  have e : d.flush.pages.length = d.pages.length := pagesAt_len d.cache d.pages
  exact ⟨by rw [e]; exact h.n0, by rw [e]; exact h.n1, Nat.zero_le _, pagesAt_h _ h.cd _ h.pg, fun x hx => (by cases hx), fun x hx => (by cases hx), .inl rfl, fun _ => rfl⟩

theorem c_vflush (G : Res) (d : DiskV) (hd : d.ok) (ho : d.off = false) (hb : d.bad.xs = []) : Ctr Tryd.prog G 105 [d.v] [] [d.rp, d.rc, d.rb] (retD d.pure.flush) := by
  have hn0 : 32 ≤ d.pages.xs.length := hd.f.n0
  have hn1 : d.pages.xs.length ≤ 64 := hd.f.n1
  have hc : d.cache.xs.length ≤ 1000 := hd.f.c
  have hwl : (wrsV d.cache.xs).length = d.cache.xs.length * 257 := wrsV_len hd.f
  have hpl : (pgsV d.pages.xs).length = d.pages.xs.length * 256 := pgsV_len hd.f
  refine Ctr.intro Tryd.func105 (by kernel_rfl) rfl Tryd.ntmps105 rfl rfl rfl fun w' X => ?_
  refine sw_seq ?_
  refine sw_region ?_
  refine r_box (cs := d.cs) (by exact rfl) rfl (by exact rfl) fun b1 => ?_
  refine r_alloc (by exact z60) (by exact rfl) (by exact rfl) fun b2 => ?_
  refine r_assign (k := ?_)
  refine sl_nil ?_
  refine sp_then ?_
  refine sw_seq ?_
  refine sw_region ?_
  refine r_load_all (k := ?_)
  refine r_call1 (c_vasked G d hd ho 0 (by omega) (by omega)) (by exact rfl) (by exact rfl) (by exact rfl) (PhAll.all (by repeat' (first | trivial | exact .head _ | apply And.intro | apply List.Mem.tail))) (by exact rfl) ?_
  refine r_assign (k := ?_)
  refine sl_nil ?_
  refine sp_then ?_
  refine sw_seq ?_
  refine sw_region ?_
  refine r_load_all (k := ?_)
  refine r_call (Bp := []) (c_vcopy G d hd) (by exact rfl) (by exact rfl) (by exact rfl) (PhAll.all (by repeat' (first | trivial | exact .head _ | apply And.intro | apply List.Mem.tail))) (by exact rfl) ?_
  rintro _ _ _ ⟨v1, v2, v3, ⟨h1, g1⟩, ⟨h2, g2⟩, ⟨h3, g3⟩, rfl, rfl, rfl⟩
  refine r_store_all (cs := d.cs) (vs := [v1, v2, v3, vb d.off]) (by exact tz rfl) (by exact rfl) (by exact rfl) (by iterate 24 (first | exact .hd | apply Upd.tl | skip)) rfl rfl (by rw [List.all_cons, g1, List.all_cons, g2, List.all_cons, g3]; rfl) rfl ?_
  refine o_rowBox (by show 0 < d.pages.xs.length; omega) fun b cap cs e1 q1 q2 q3 q4 _ => ?_
  cases e1
  refine o_pull 1 rfl ?_
  refine o_row fun bac capc e2 q5 q6 _ => ?_
  cases e2
  refine o_pull 1 rfl ?_
  refine o_row fun bab capb e3 q7 q8 _ => ?_
  cases e3
  obtain ⟨rest, er⟩ : ∃ rest, cs = pgsV d.pages.xs ++ rest := ⟨cs.drop (d.pages.xs.length * 256), by
    have : cs.take (d.pages.xs.length * 256) = pgsV d.pages.xs := q4
    rw [← this, List.take_append_drop]⟩
  subst er
  have hb0 : d.pure.bad = [] := hb
  rw [hb0]
  dsimp only [pull, push, two, List.drop, List.take, List.cons_append, List.nil_append]
  simp only [show d.pure.pages = d.pages.xs from rfl, show d.pure.cache = d.cache.xs from rfl, show d.pure.off = d.off from rfl] at q3 ⊢
  refine sl_nil ?_
  refine sp_then ?_
  refine sw_seq ?_
  refine sw_seq ?_
  refine sw_region ?_
  refine r_move (k := ?_)
  refine r_neq (k := ?_)
  refine sl_nil ?_
  refine sp_then ?_
  refine w_re (t := 12) (v' := vb false) rfl rfl ?_
  refine swd_f (h := ?_)
  refine sw_skip ?_
  refine sp_then ?_
  refine sw_seq ?_
  refine sw_seq ?_
  refine sw_region ?_
  refine r_fieldAddr (k := ?_)
  refine r_load_one (k := ?_)
  refine r_len (k := ?_)
  refine r_move (k := ?_)
  refine sl_nil ?_
  refine sp_then ?_
  refine sw_block ?_
  refine sw_loop (ι := { i : Nat // i ≤ d.cache.xs.length }) (fun i => [(1, .pointer (some ⟨b1, 0, none⟩)), (2, .pointer (some ⟨b2, 0, none⟩)), (16, .slice bac d.cache.xs.length capc), (17, vi (d.cache.xs.length : Int)), (18, vi (i.1 : Int))])
    (fun i => [.box b (pgsV (pagesAt d.pages.xs (d.cache.xs.take i.1)) ++ rest) 37, .box b2 [.slice none 0 0, .slice none 0 0, .slice none 0 0, vb false] 60, .box b1 [.slice (some ⟨b, 0, none⟩) d.pages.xs.length cap, .slice bac d.cache.xs.length capc, .slice bab 0 capb, vb d.off] 60]) (fun _ => [Res.mem bab (isV []), Res.mem bac (wrsV d.cache.xs)]) (fun _ => []) (fun i => d.cache.xs.length - i.1) ⟨0, by omega⟩ ?_ fun i => ?_
  · exact Ent.mk' (by repeat' (first | trivial | exact rfl | apply And.intro)) (by repeat' (first | trivial | exact .head _ | apply And.intro | apply List.Mem.tail))
  obtain ⟨i, hi⟩ := i
  dsimp only
  refine sw_seq ?_
  refine sw_region ?_
  refine r_lss (k := ?_)
  refine sl_nil ?_
  refine sp_then ?_
  refine sw_seq ?_
  refine sw_cond rfl (fun h => ?_) (fun h => ?_)
  · have h := of_decide_eq_true h
    have hi' : i < d.cache.xs.length := by omega
    obtain ⟨x, ex⟩ : ∃ x, x = d.cache.xs[i] := ⟨_, rfl⟩
    have hca : 0 ≤ x.at' ∧ x.at' < (d.pages.xs.length : Int) := ex ▸ hd.f.ca d.cache.xs[i] (List.getElem_mem hi')
    have hxl : x.data.length = 256 := ex ▸ hd.f.cd d.cache.xs[i] (List.getElem_mem hi')
    have hl1 : (bv x.data).length = 256 := by rw [bv_len, hxl]
    have hl2 : x.cs.length = 257 := by rw [WrV.cs, List.length_cons, hl1]
    obtain ⟨P, eP⟩ : ∃ P, P = pagesAt d.pages.xs (d.cache.xs.take i) := ⟨_, rfl⟩
    have hPl : P.length = d.pages.xs.length := eP ▸ pagesAt_len _ _
    have hPh : ∀ y ∈ P, (bv y).length = 256 := fun y hy => by
      rw [bv_len]
      exact pagesAt_h (d.cache.xs.take i) (fun z hz => hd.f.cd z (List.take_subset _ _ hz)) d.pages.xs hd.f.pg y (eP ▸ hy)
    have hPc : (pgsV P).length = P.length * 256 := fm_len P hPh
    have hat : x.at'.toNat < P.length := by omega
    have enext : pagesAt d.pages.xs (d.cache.xs.take (i + 1)) = P.set x.at'.toNat x.data := by rw [pagesAt_take _ _ i hi', ← ex, ← eP]
    rw [← eP]
    refine sw_skip ?_
    refine sp_then ?_
    refine sw_seq ?_
    refine sw_block ?_
    refine sw_seq ?_
    refine sw_region ?_
    refine r_idx (cs := wrsV d.cache.xs) (by exact tl rfl) (by exact rfl) (by exact rfl) (by omega) (by omega) (by iterate 24 (first | exact .head _ | apply List.Mem.tail | skip)) (by rw [hwl]; exact Nat.le_refl _) (by exact rfl) (by exact Int.toNat_natCast _) (by exact rfl) ?_
    refine r_load_mem (vs := x.cs) (by exact tz rfl) (by exact rfl) (by iterate 24 (first | exact .head _ | apply List.Mem.tail | skip)) (ex ▸ fm_at _ i (wrsV_h hd.f) hi') rfl hl2 (by exact rfl) ?_
    refine r_alloc (by exact z147) (cs := zeroW) (by kernel_rfl) (by exact rfl) fun b6 => ?_
    refine r_store_all (cs := zeroW) (vs := x.cs) (by exact tz rfl) (by exact rfl) (by exact rfl) (by iterate 24 (first | exact .hd | apply Upd.tl | skip)) rfl hl2 (wrsV_oneC _) rfl ?_
    refine sl_nil ?_
    refine sp_then ?_
    refine sw_seq ?_
    refine sw_region ?_
    refine r_fieldAddr (k := ?_)
    refine r_load_one (k := ?_)
    refine r_fieldAddr (k := ?_)
    refine r_load_one (k := ?_)
    refine r_fieldAddr (k := ?_)
    refine r_load_agg (cs := x.cs) (off := 1) (vs := bv x.data) (by exact tz rfl) (by exact rfl) (by iterate 24 (first | exact .head _ | apply List.Mem.tail | skip)) (by rw [WrV.cs, List.drop_succ_cons, List.drop_zero]; exact List.take_of_length_le (Nat.le_of_eq hl1)) hl1 (by exact rfl) ?_
    refine r_idx_own (i := x.at'.toNat) (by exact tl rfl) (by exact rfl) (by exact rfl) hca.1 hca.2 rfl (by exact rfl) ?_
    refine r_store (vs := bv x.data) (cs' := pgsV (P.set x.at'.toNat x.data) ++ rest) (by exact tz rfl) (by exact rfl) (by exact rfl) (by iterate 24 (first | exact .hd | apply Upd.tl | skip)) rfl hl1 (bv_one _) (by rw [hl1]; refine Nat.le_trans (m := P.length * 256) (by omega) ?_; rw [← hPc]; exact Nat.le_trans (Nat.le_add_right _ rest.length) (Nat.le_of_eq (List.length_append).symm)) (fm_set P x.at'.toNat x.data hPh hl1 hat rest) ?_
    refine sl_nil ?_
    refine sp_then ?_
    refine sw_region ?_
    refine r_fieldAddr (k := ?_)
    refine r_load_one (k := ?_)
    refine r_clos (k := ?_)
    refine r_call1 (c_delete0 G bab capb _) (by exact rfl) (by exact rfl) (by exact rfl) (by simp) (by exact rfl) ?_
    refine r_fieldAddr (k := ?_)
    refine r_store1 (k := ?_)
    refine sl_nil ?_
    refine sp_block ?_
    refine sp_then ?_
    refine sw_region ?_
    refine r_add64 (k := ?_)
    refine r_move (k := ?_)
    refine sl_nil ?_
    refine sp_drop rfl ?_
    refine sp_loop (ι := { i : Nat // i ≤ d.cache.xs.length }) ⟨i + 1, by omega⟩ ?_ ?_
    · dsimp only; omega
    · dsimp only
      rw [enext]
      exact Ent.mk' (by repeat' (first | trivial | exact rfl | apply And.intro)) (by repeat' (first | trivial | exact .head _ | apply And.intro | apply List.Mem.tail))
  have h := of_decide_eq_false h
  obtain rfl : i = d.cache.xs.length := by omega
  rw [List.take_length]
  refine sw_exit ?_
  refine sp_then_exit ?_
  refine sp_loop_exit ?_
  refine sp_block_exit ?_
  refine sp_then ?_
  refine sw_seq ?_
  refine sw_region ?_
  refine r_fieldAddr (k := ?_)
  refine r_store1 (k := ?_)
  refine sl_nil ?_
  refine sp_then ?_
  refine sw_seq ?_
  refine sw_region ?_
  refine r_load_all (k := ?_)
  refine r_store_all (k := ?_)
  refine r_assign (k := ?_)
  refine sl_nil ?_
  refine sp_then ?_
  refine sw_ret ?_
  have hPl : (pagesAt d.pages.xs d.cache.xs).length = d.pages.xs.length := pagesAt_len _ _
  refine sp_freeze ?_
  refine sp_of_sl (fun h => f_have (φ := Res.mem (some ⟨b, 0, none⟩) (pgsV (pagesAt d.pages.xs d.cache.xs))) (fun V w hw => by
    have := mem_take (k := (pgsV (pagesAt d.pages.xs d.cache.xs)).length) (hw _ (.head _))
    rwa [List.take_left] at this) h) ?_
  refine sp_of_sl (fun h => f_have (φ := Res.mem none (wrsV [])) (fun V w hw i v hv => by simp [wrsV] at hv) h) ?_
  refine sp_ret2 rfl rfl (.agg rfl (tz rfl) rfl (.head _)) (.tmp rfl) rfl rfl ⟨rfl, ⟨⟨some ⟨b, 0, none⟩, cap, pagesAt d.pages.xs d.cache.xs⟩, ⟨none, 0, []⟩, ⟨bab, capb, []⟩, d.off⟩, by simp [DiskV.v, DiskV.cs, Sl.v, hPl], ⟨⟨by rw [hPl]; exact q1, q2⟩, ⟨Nat.le_refl _, Nat.zero_le _⟩, ⟨Nat.zero_le _, q8⟩, flush_fine hd.f⟩, rfl, rfl⟩ (by simp) rfl (PhAll.all (by repeat' (first | trivial | exact .head _ | apply And.intro | apply List.Mem.tail)))
end Go.Proofs.YtjahiohlekdhoaaDoor

namespace Go.Proofs.YtjahiohlekdhoaaDoor
open Go
set_option maxHeartbeats 4000000
set_option maxRecDepth 4000
attribute [local irreducible] SW SL SP RA Then FQ IQ LoopQ RQ AQ NX CutQ Exit.noGoto

theorem c_mready (G : Res) (p : PairV) (hl : ¬ (liveN p).toNat = 0) : Ctr Tryd.prog G 104 [p.v] [] [] (ret1 (vi 0)) := by
  refine Ctr.intro Tryd.func104 (by kernel_rfl) rfl Tryd.ntmps104 rfl rfl rfl fun w' X => ?_
  refine sw_seq ?_
  refine sw_region ?_
  refine r_box (cs := p.cs) (by exact rfl) rfl (by exact rfl) fun b1 => ?_
  refine r_assign (k := ?_)
  refine sl_nil ?_
  refine sp_then ?_
  refine sw_seq ?_
  refine sw_block ?_
  refine sw_seq ?_
  refine sw_region ?_
  refine r_fieldAddr (k := ?_)
  refine r_load_one (k := ?_)
  refine r_assign (k := ?_)
  refine sl_nil ?_
  refine sp_then ?_
  refine swd_f (h := ?_)
  refine sw_seq ?_
  refine sw_region ?_
  refine r_load_all (k := ?_)
  refine r_call1 (c_live G p) (by exact rfl) (by exact rfl) (by exact rfl) (by simp) (by exact rfl) ?_
  refine r_eql (k := ?_)
  refine r_assign (k := ?_)
  refine sl_nil ?_
  refine sp_then ?_
  refine w_re (t := 6) (v' := vb false) rfl (by simp [hl]) ?_
  refine swd_f (h := ?_)
  refine sw_skip ?_
  refine sp_block ?_
  refine sp_then ?_
  refine sw_seq ?_
  refine sw_region ?_
  refine r_assign (k := ?_)
  refine sl_nil ?_
  refine sp_then ?_
  refine sw_ret ?_
  refine sp_retv rfl rfl (.tmp rfl) rfl rfl ⟨rfl, rfl, rfl⟩ (by simp) rfl (by simp)

def DiskP.flushed (d : DiskP) : DiskP := if d.off = false then d.flush else d
structure FlushI (p : PairV) (n : Nat) (s : PairV) : Prop where
  le : n ≤ 2
  o0 : s.d0.ok
  o1 : s.d1.ok
  e0 : s.d0.pure = if 0 < n then p.d0.pure.flushed else p.d0.pure
  e1 : s.d1.pure = if 1 < n then p.d1.pure.flushed else p.d1.pure
theorem c_mflush (G : Res) (p : PairV) (h0 : p.d0.ok) (h1 : p.d1.ok) (hl : ¬ (liveN p).toNat = 0) (hb0 : p.d0.bad.xs = []) (hb1 : p.d1.bad.xs = []) :
    Ctr Tryd.prog G 77 [p.v] [] [p.d0.rp, p.d0.rc, p.d0.rb, p.d1.rp, p.d1.rc, p.d1.rb] (retF fun v Φ' => ∃ s : PairV, v = .tuple #[s.v, vi 0] ∧ FlushI p 2 s ∧ Φ' = s.ress) := by
  refine Ctr.intro Tryd.func77 (by kernel_rfl) rfl Tryd.ntmps77 rfl rfl rfl fun w' X => ?_
  refine sw_seq ?_
  refine sw_region ?_
  refine r_box (cs := p.cs) (by exact rfl) rfl (by exact rfl) fun b1 => ?_
  refine r_alloc (by exact z63) (by exact rfl) (by exact rfl) fun b2 => ?_
  refine r_assign (k := ?_)
  refine sl_nil ?_
  refine sp_then ?_
  refine sw_seq ?_
  refine sw_region ?_
  refine r_load_all (k := ?_)
  refine r_store_all (k := ?_)
  refine sl_nil ?_
  refine sp_then ?_
  refine sw_seq ?_
  refine sw_region ?_
  refine r_load_all (k := ?_)
  refine r_call1 (c_mready G p hl) (by exact rfl) (by exact rfl) (by exact rfl) (by simp) (by exact rfl) ?_
  refine r_assign (k := ?_)
  refine sl_nil ?_
  refine sp_then ?_
  refine sw_seq ?_
  refine sw_seq ?_
  refine sw_region ?_
  refine r_move (k := ?_)
  refine sl_nil ?_
  refine sp_then ?_
  refine sw_block ?_
  refine sw_loop (ι := { s : Nat × PairV // FlushI p s.1 s.2 }) (fun s => [(1, .pointer (some ⟨b1, 0, none⟩)), (2, .pointer (some ⟨b2, 0, none⟩)), (3, vi 0), (8, vi (s.1.1 : Int))])
    (fun s => [.box b2 s.1.2.cs 63, .box b1 p.cs 63]) (fun s => [s.1.2.d0.rp, s.1.2.d0.rc, s.1.2.d0.rb, s.1.2.d1.rp, s.1.2.d1.rc, s.1.2.d1.rb]) (fun _ => []) (fun s => 2 - s.1.1) ⟨(0, p), ⟨by dsimp only; omega, h0, h1, rfl, rfl⟩⟩ ?_ fun s => ?_
  · exact Ent.mk' (by repeat' (first | trivial | exact rfl | apply And.intro)) (by repeat' (first | trivial | exact .head _ | apply And.intro | apply List.Mem.tail))
  obtain ⟨⟨n, s⟩, hs⟩ := s
  dsimp only at hs ⊢
  refine sw_seq ?_
  refine sw_region ?_
  refine r_lss (k := ?_)
  refine sl_nil ?_
  refine sp_then ?_
  refine sw_seq ?_
  refine sw_cond rfl (fun h => ?_) (fun h => ?_)
  · have h := of_decide_eq_true h
    obtain ⟨k, rfl⟩ : ∃ k, n = bN k := by
      obtain rfl | rfl : n = 0 ∨ n = 1 := by omega
      · exact ⟨false, rfl⟩
      · exact ⟨true, rfl⟩
    have ek : ((bN k : Nat) : Int) = ib k := by cases k <;> rfl
    have hk : bN k ≤ 1 := by cases k <;> decide
    have hsk : (s.get k).pure = (p.get k).pure := by
      cases k
      · exact hs.e0.trans (if_neg (by decide))
      · exact hs.e1.trans (if_neg (by decide))
    have hok' : (s.get k).ok := by cases k with | false => exact hs.o0 | true => exact hs.o1
    have hso : (s.get k).off = (p.get k).off := congrArg DiskP.off hsk
    have hsb : (s.get k).bad.xs = [] := by
      have : (s.get k).bad.xs = (p.get k).bad.xs := congrArg DiskP.bad hsk
      rw [this]
      cases k with | false => exact hb0 | true => exact hb1
    have e21 : vi (ib k + 1) = vi ((bN k + 1 : Nat) : Int) := by cases k <;> rfl
    have hst : (p.get k).off = true → FlushI p (bN k + 1) s := fun hn => by
      cases k
      · have hp : p.d0.pure.flushed = p.d0.pure := if_neg (by rw [show p.d0.pure.off = true from hn]; decide)
        exact ⟨by decide, hs.o0, hs.o1, hs.e0.trans (by simp [hp, bN]), hs.e1⟩
      · have hp : p.d1.pure.flushed = p.d1.pure := if_neg (by rw [show p.d1.pure.off = true from hn]; decide)
        exact ⟨by decide, hs.o0, hs.o1, hs.e0, hs.e1.trans (by simp [hp, bN])⟩
    have hgo : (p.get k).off = false → ∀ x : DiskV, x.ok → x.pure = (s.get k).pure.flush → FlushI p (bN k + 1) (s.set k x) := fun hn x hx hxp => by
      rw [hsk] at hxp
      cases k
      · have hp : p.d0.pure.flushed = x.pure := (if_pos hn).trans hxp.symm
        exact ⟨by decide, hx, hs.o1, by simp [hp, bN, PairV.set], hs.e1⟩
      · have hp : p.d1.pure.flushed = x.pure := (if_pos hn).trans hxp.symm
        exact ⟨by decide, hs.o0, hx, hs.e0, by simp [hp, bN, PairV.set]⟩
    rw [ek]
    refine sw_skip ?_
    refine sp_then ?_
    refine sw_seq ?_
    refine sw_block ?_
    refine sw_seq ?_
    refine sw_region ?_
    refine r_move (k := ?_)
    refine r_assign (k := ?_)
    refine sl_nil ?_
    refine sp_then ?_
    refine sw_seq ?_
    refine sw_region ?_
    refine r_move (k := ?_)
    refine r_eql (k := ?_)
    refine r_move (k := ?_)
    refine r_re (t := 13) (v' := vb true) rfl rfl ?_
    refine gd_yes (k := ?_)
    refine r_move (k := ?_)
    refine gd_yes (k := ?_)
    refine r_fieldAddr (k := ?_)
    refine gd_yes (k := ?_)
    refine r_idx_arr (k := ?_)
    refine gd_yes (k := ?_)
    refine r_fieldAddr (k := ?_)
    refine gd_yes (k := ?_)
    refine r_load_one (v := vb (p.get k).off) (by exact tz rfl) (by exact rfl) (by iterate 24 (first | exact .head _ | apply List.Mem.tail | skip)) (by cases k <;> rfl) (by exact rfl) ?_
    refine gd_yes (k := ?_)
    refine r_not (k := ?_)
    refine rd_pick_t (k := ?_)
    refine sl_nil ?_
    refine sp_then ?_
    cases ho : (p.get k).off
    · refine w_re (t := 20) (v' := vb true) rfl rfl ?_
      have hgm : ∀ φ ∈ [(s.get k).rp, (s.get k).rc, (s.get k).rb], φ ∈ [s.d0.rp, s.d0.rc, s.d0.rb, s.d1.rp, s.d1.rc, s.d1.rb] := by
        cases k
        · exact (PhAll.all (by repeat' (first | trivial | exact .head _ | apply And.intro | apply List.Mem.tail)))
        · exact (PhAll.all (by repeat' (first | trivial | exact .head _ | apply And.intro | apply List.Mem.tail)))
      refine swd_t (h := ?_)
      refine sw_region ?_
      refine r_load_all (k := ?_)
      refine r_move (k := ?_)
      refine r_callF (c_does G s k _ [] _ _ (c_vflush G (s.get k) hok' (hso.trans ho) hsb)) (by exact rfl) (by exact rfl) (by exact rfl) hgm (by exact rfl) ?_
      rintro _ _ ⟨x, rfl, hx, hxp, rfl⟩
      refine r_move (k := ?_)
      refine r_ext (k := ?_)
      refine r_ext (k := ?_)
      refine r_store_all (k := ?_)
      refine r_assign (k := ?_)
      refine sl_nil ?_
      refine sp_block ?_
      refine sp_then ?_
      refine sw_region ?_
      refine r_add64 (k := ?_)
      refine r_move (k := ?_)
      refine sl_nil ?_
      refine sp_re (t := 8) (v' := vi ((bN k + 1 : Nat) : Int)) rfl e21 ?_
      refine sp_loop (ι := { s : Nat × PairV // FlushI p s.1 s.2 }) ⟨(bN k + 1, s.set k x), hgo ho x hx hxp⟩ ?_ ?_
      · dsimp only; omega
      · cases k
        · exact Ent.mk' (by repeat' (first | trivial | exact rfl | apply And.intro)) (by repeat' (first | trivial | exact .head _ | apply And.intro | apply List.Mem.tail))
        · exact Ent.mk' (by repeat' (first | trivial | exact rfl | apply And.intro)) (by repeat' (first | trivial | exact .head _ | apply And.intro | apply List.Mem.tail))
    · refine w_re (t := 20) (v' := vb false) rfl rfl ?_
      refine swd_f (h := ?_)
      refine sw_skip ?_
      refine sp_block ?_
      refine sp_then ?_
      refine sw_region ?_
      refine r_add64 (k := ?_)
      refine r_move (k := ?_)
      refine sl_nil ?_
      refine sp_re (t := 8) (v' := vi ((bN k + 1 : Nat) : Int)) rfl e21 ?_
      refine sp_loop (ι := { s : Nat × PairV // FlushI p s.1 s.2 }) ⟨(bN k + 1, s), hst ho⟩ ?_ ?_
      · dsimp only; omega
      · exact Ent.mk' (by repeat' (first | trivial | exact rfl | apply And.intro)) (by repeat' (first | trivial | exact .head _ | apply And.intro | apply List.Mem.tail))
  · have h := of_decide_eq_false h
    have hle := hs.le
    obtain rfl : n = 2 := by omega
    refine sw_exit ?_
    refine sp_then_exit ?_
    refine sp_loop_exit ?_
    refine sp_block_exit ?_
    refine sp_then ?_
    refine sw_seq ?_
    refine sw_region ?_
    refine r_load_all (k := ?_)
    refine r_move (k := ?_)
    refine r_store_all (k := ?_)
    refine r_assign (k := ?_)
    refine sl_nil ?_
    refine sp_then ?_
    refine sw_ret ?_
    refine sp_ret2 rfl rfl (.agg rfl (tz rfl) rfl (.head _)) (.tmp rfl) rfl rfl ⟨rfl, s, rfl, hs, rfl⟩ (by simp) rfl (PhAll.all (by repeat' (first | trivial | exact .head _ | apply And.intro | apply List.Mem.tail)))
end Go.Proofs.YtjahiohlekdhoaaDoor

namespace Go.Proofs.YtjahiohlekdhoaaDoor
open Go
set_option maxHeartbeats 4000000
set_option maxRecDepth 4000
attribute [local irreducible] SW SL SP RA Then FQ IQ LoopQ RQ AQ NX CutQ Exit.noGoto

open Classical in
/-- Whether a disk lacks an anchor in its slot. -/
noncomputable def healQ (p : PairV) (a : AncV) (k : Bool) : Bool := !decide ((p.get k).pure.slot (a.tx % 4).toNat = a.pure)
theorem c_heal1 (p : PairV) (h0 : p.d0.ok) (h1 : p.d1.ok) (a : AncV) (b : Nat) (k : Bool) : Ctr Tryd.prog GW 79 [(p.get k).v, .pointer (some ⟨b, 0, none⟩)] [] [p.d0.rp, p.d0.rc, p.d0.rb, p.d1.rp, p.d1.rc, p.d1.rb, a.mark.key.res, Res.mem (some ⟨b, 0, none⟩) a.cs] (ret1 (vb (healQ p a k))) := by
  have hok : (p.get k).ok := by cases k with | false => exact h0 | true => exact h1
  have h4 : (a.tx % 4).toNat < 4 := by rw [UInt32.toNat_mod]; exact Nat.mod_lt _ (by decide)
  have hgm : ∀ φ ∈ [(p.get k).rp, (p.get k).rc, (p.get k).rb], φ ∈ [p.d0.rp, p.d0.rc, p.d0.rb, p.d1.rp, p.d1.rc, p.d1.rb, a.mark.key.res, Res.mem (some ⟨b, 0, none⟩) a.cs] := by
    cases k
    · exact (PhAll.all (by repeat' (first | trivial | exact .head _ | apply And.intro | apply List.Mem.tail)))
    · exact (PhAll.all (by repeat' (first | trivial | exact .head _ | apply And.intro | apply List.Mem.tail)))
  refine Ctr.intro Tryd.func79 (by kernel_rfl) rfl Tryd.ntmps79 rfl rfl rfl fun w' X => ?_
  refine sw_seq ?_
  refine sw_region ?_
  refine r_box (cs := (p.get k).cs) (by exact rfl) rfl (by exact rfl) fun b2 => ?_
  refine r_assign (k := ?_)
  refine sl_nil ?_
  refine sp_then ?_
  refine sw_seq ?_
  
  refine sw_draw [(none, .box b2 (p.get k).cs 60)] [Res.mem (some ⟨b, 0, none⟩) a.cs] [0, 1, 2, 3, 4, 5, 6, 7, 8] mix (by kernel_rfl) rfl ?_
  refine ra_first 0 [(none, .box b2 (p.get k).cs 60)] [1, 2, 3, 4, 5, 6, 7, 8] (hq := by first | exact q_load_one | exact q_load_all | exact q_load_fr1 | exact q_load_fr) (k := ?_)
  refine ra_first 1 [] [2, 3, 4, 5, 6, 7, 8] (hq := by exact q_fieldAddr) (k := ?_)
  refine ra_first 2 [(none, .box b2 (p.get k).cs 60)] [3, 4, 5, 6, 7, 8] (hq := by first | exact q_load_one | exact q_load_all | exact q_load_fr1 | exact q_load_fr) (k := ?_)
  refine ra_first 5 [(none, .box b2 (p.get k).cs 60)] [3, 4, 6, 7, 8] (hq := by exact q_load_fr (vs := a.cs) (cs := a.cs) (by exact tz rfl) (by exact rfl) (by iterate 24 (first | exact .head _ | apply List.Mem.tail | skip)) rfl rfl rfl) (k := ?_)
  refine ra1 (i := 3) [4, 6, 7, 8] (h := ?_)
  refine r_call1 (c_slot GW a.tx) (by exact rfl) (by exact rfl) (by exact rfl) (by simp) (by exact rfl) ?_
  refine sl_nil ?_
  refine sp_nx (k := ?_)
  refine ra1 (i := 4) [6, 7, 8] (h := ?_)
  refine r_callF (c_rslot (p.get k) hok (a.tx % 4).toNat h4) (by exact rfl) (by exact rfl) (by exact rfl) hgm (by exact rfl) ?_
  rintro _ _ ⟨x, rfl, hxk, hxp, rfl⟩
  refine sl_nil ?_
  refine sp_nx (k := ?_)
  refine ra1 (i := 6) [7, 8] (h := ?_)
  refine r_call1 (c_same GW x a) (by exact rfl) (by exact rfl) (by exact rfl) (PhAll.all (by repeat' (first | trivial | exact .head _ | apply And.intro | apply List.Mem.tail))) (by exact rfl) ?_
  refine sl_nil ?_
  refine sp_nx (k := ?_)
  refine ra_first 7 [] [8] (hq := by exact q_not) (k := ?_)
  refine ra_first 8 [] [] (hq := by exact q_assign) (k := ?_)
  refine ra_done ?_
  refine sp_then ?_
  refine sw_ret ?_
  have e : (!sameV x a) = healQ p a k := by
    unfold healQ
    rw [← hxp]
    congr 1
    rw [Bool.eq_iff_iff, sameV_iff, decide_eq_true_eq]
  refine sp_retv rfl rfl (.tmp rfl) rfl rfl ⟨by rw [← e], rfl, rfl⟩ (by simp) rfl (by simp)

theorem put_off (d : DiskP) (a : AncV) (q : Bool) : (d.put a q).off = d.off := by unfold DiskP.put; split <;> rfl
theorem put_bad (d : DiskP) (a : AncV) (q : Bool) : (d.put a q).bad = d.bad := by unfold DiskP.put; split <;> rfl
theorem PutI.live {p s : PairV} {a : AncV} {q : Bool → Bool} (h : PutI p a q 2 s) : liveN s = liveN p := by
  have e0 : s.d0.off = p.d0.off := by have := congrArg DiskP.off h.e0; exact this.trans (put_off _ _ _)
  have e1 : s.d1.off = p.d1.off := by have := congrArg DiskP.off h.e1; exact this.trans (put_off _ _ _)
  unfold liveN; rw [e0, e1]
/-- What healing tells. -/
def HealI (p : PairV) (a : AncV) (q : Bool → Bool) (s' : PairV) : Prop := ∃ s : PairV, PutI p a q 2 s ∧ (if (encV a).2 = 0 ∧ 0 < putN' p a q 2 then FlushI s 2 s' else s' = s)
theorem c_rheal (p : PairV) (h0 : p.d0.ok) (h1 : p.d1.ok) (hl : ¬ (liveN p).toNat = 0) (a : AncV) (hok : a.mark.key.ok) (hc0 : p.d0.cache.xs.length < 1000) (hc1 : p.d1.cache.xs.length < 1000) (hb0 : p.d0.bad.xs = []) (hb1 : p.d1.bad.xs = []) :
    Ctr Tryd.prog GW 42 [p.v, a.v] [] [p.d0.rp, p.d0.rc, p.d0.rb, p.d1.rp, p.d1.rc, p.d1.rb, a.mark.key.res]
      (retF fun v Φ' => ∃ s' : PairV, v = .tuple #[s'.v, vi (encV a).2] ∧ HealI p a (healQ p a) s' ∧ Φ' = s'.ress) := by
  refine Ctr.intro Tryd.func42 (by kernel_rfl) rfl Tryd.ntmps42 rfl rfl rfl fun w' X => ?_
  refine sw_seq ?_
  refine sw_region ?_
  refine r_box (cs := p.cs) (by exact rfl) rfl (by exact rfl) fun b1 => ?_
  refine r_box (cs := a.cs) (by exact rfl) rfl (by exact rfl) fun b2 => ?_
  refine o_freeze ?_
  refine r_alloc (by exact z63) (by exact rfl) (by exact rfl) fun b3 => ?_
  refine r_assign (k := ?_)
  refine sl_nil ?_
  refine sp_then ?_
  refine sw_seq ?_
  refine sw_region ?_
  refine r_load_all (k := ?_)
  refine r_load_fr (k := ?_)
  refine r_clos (k := ?_)
  refine r_callF (c_putG p h0 h1 hl a hok hc0 hc1 79 [.pointer (some ⟨b2, 0, none⟩)] (Res.mem (some ⟨b2, 0, none⟩) a.cs) (healQ p a) fun k _ => c_heal1 p h0 h1 a b2 k) (by exact rfl) (by exact rfl) (by exact rfl) (PhAll.all (by repeat' (first | trivial | exact .head _ | apply And.intro | apply List.Mem.tail))) (by exact rfl) ?_
  rintro _ _ ⟨s, rfl, hs, rfl⟩
  refine r_move (k := ?_)
  refine r_ext (k := ?_)
  refine r_ext (k := ?_)
  refine r_ext (k := ?_)
  refine r_alloc (by exact z63) (by exact rfl) (by exact rfl) fun b4 => ?_
  refine r_store_all (k := ?_)
  refine r_assign (k := ?_)
  refine r_assign (k := ?_)
  refine sl_nil ?_
  refine sp_then ?_
  refine sw_seq ?_
  refine sw_seq ?_
  refine sw_region ?_
  refine r_move (k := ?_)
  refine r_eql (k := ?_)
  refine r_move (k := ?_)
  by_cases he : (encV a).2 = 0
  · refine r_re (t := 19) (v' := vb true) rfl (by rw [decide_eq_true he]) ?_
    refine gd_yes (k := ?_)
    refine r_move (k := ?_)
    refine gd_yes (k := ?_)
    refine r_gtr (k := ?_)
    refine rd_pick_t (k := ?_)
    refine sl_nil ?_
    refine sp_then ?_
    by_cases hn : 0 < putN' p a (healQ p a) 2
    · refine w_re (t := 22) (v' := vb true) rfl (by rw [decide_eq_true (by omega)]) ?_
      refine swd_t (h := ?_)
      refine sw_seq ?_
      refine sw_region ?_
      refine r_load_all (k := ?_)
      have hsb0 : s.d0.bad.xs = [] := by have := congrArg DiskP.bad hs.e0; exact this.trans ((put_bad _ _ _).trans hb0)
      have hsb1 : s.d1.bad.xs = [] := by have := congrArg DiskP.bad hs.e1; exact this.trans ((put_bad _ _ _).trans hb1)
      refine r_callF (c_mflush GW s hs.o0 hs.o1 (by rw [hs.live]; exact hl) hsb0 hsb1) (by exact rfl) (by exact rfl) (by exact rfl) (fun φ h => List.mem_append_left _ h) (by exact rfl) ?_
      rintro _ _ ⟨s', rfl, hs', rfl⟩
      refine r_ext (k := ?_)
      refine r_ext (k := ?_)
      refine r_store_all (k := ?_)
      refine r_assign (k := ?_)
      refine sl_nil ?_
      refine sp_then ?_
      refine sw_ret ?_
      refine sp_then_ret ?_
      refine sp_ret2 rfl rfl (.agg rfl (tz rfl) rfl (.tail _ (.head _))) (.tmp rfl) rfl rfl ⟨rfl, s', by rw [he]; rfl, ⟨s, hs, by rw [if_pos ⟨he, hn⟩]; exact hs'⟩, rfl⟩ (by simp) rfl (fun φ h => List.mem_append_left _ h)
    · refine w_re (t := 22) (v' := vb false) rfl (by rw [decide_eq_false (by omega)]) ?_
      refine swd_f (h := ?_)
      refine sw_skip ?_
      refine sp_then ?_
      refine sw_seq ?_
      refine sw_region ?_
      refine r_load_all (k := ?_)
      refine r_move (k := ?_)
      refine r_store_all (k := ?_)
      refine r_assign (k := ?_)
      refine sl_nil ?_
      refine sp_then ?_
      refine sw_ret ?_
      refine sp_ret2 rfl rfl (.agg rfl (tz rfl) rfl (.tail _ (.head _))) (.tmp rfl) rfl rfl ⟨rfl, s, rfl, ⟨s, hs, by rw [if_neg fun h => hn h.2]⟩, rfl⟩ (by simp) rfl (fun φ h => List.mem_append_left _ h)
  · refine r_re (t := 19) (v' := vb false) rfl (by rw [decide_eq_false he]) ?_
    refine gd_no (k := ?_)
    refine gd_no (k := ?_)
    refine rd_pick_f (k := ?_)
    refine sl_nil ?_
    refine sp_then ?_
    refine swd_f (h := ?_)
    refine sw_skip ?_
    refine sp_then ?_
    refine sw_seq ?_
    refine sw_region ?_
    refine r_load_all (k := ?_)
    refine r_move (k := ?_)
    refine r_store_all (k := ?_)
    refine r_assign (k := ?_)
    refine sl_nil ?_
    refine sp_then ?_
    refine sw_ret ?_
    refine sp_ret2 rfl rfl (.agg rfl (tz rfl) rfl (.tail _ (.head _))) (.tmp rfl) rfl rfl ⟨rfl, s, rfl, ⟨s, hs, by rw [if_neg fun h => he h.1]⟩, rfl⟩ (by simp) rfl (fun φ h => List.mem_append_left _ h)
end Go.Proofs.YtjahiohlekdhoaaDoor

namespace Go.Proofs.YtjahiohlekdhoaaDoor
open Go
set_option maxHeartbeats 4000000
set_option maxRecDepth 4000
attribute [local irreducible] SW SL SP RA Then FQ IQ LoopQ RQ AQ NX CutQ Exit.noGoto

theorem c_own (G : Res) (d : DiskV) (hd : d.ok) : Ctr Tryd.prog G 71 [d.v] [] [d.rp, d.rc, d.rb] (retDisk d.pure) := by
  have hpl := pgsV_len hd.f
  have hn1 : d.pages.xs.length ≤ 64 := hd.f.n1
  have hcl := wrsV_len hd.f
  have hc : d.cache.xs.length ≤ 1000 := hd.f.c
  have hbl := isV_len d.bad.xs
  have hb1 : d.bad.xs.length ≤ 1 := bad_len hd.f
  refine Ctr.intro Tryd.func71 (by kernel_rfl) rfl Tryd.ntmps71 rfl rfl rfl fun w' X => ?_
  refine sw_seq ?_
  refine sw_region ?_
  refine r_box (cs := d.cs) (by exact rfl) rfl (by exact rfl) fun b1 => ?_
  refine r_alloc (by exact z60) (by exact rfl) (by exact rfl) fun b2 => ?_
  refine sl_nil ?_
  refine sp_then ?_
  refine sw_seq ?_
  refine sw_region ?_
  refine r_fieldAddr (k := ?_)
  refine r_load_one (k := ?_)
  refine r_buildP [.slice none 0 0, .slice none 0 0, .slice none 0 0, vb d.off] (parts := [(3, .tmp 5)]) (by exact rfl) (by kernel_rfl) (by exact rfl) ?_
  refine r_alloc (by exact z60) (by exact rfl) (by exact rfl) fun b3 => ?_
  refine r_store_all (cs := [.slice none 0 0, .slice none 0 0, .slice none 0 0, vb false]) (vs := [.slice none 0 0, .slice none 0 0, .slice none 0 0, vb d.off]) (by exact tz rfl) (by exact rfl) (by exact rfl) (by iterate 24 (first | exact .hd | apply Upd.tl | skip)) rfl rfl rfl rfl ?_
  refine sl_nil ?_
  refine sp_then ?_
  refine sw_seq ?_
  refine sw_region ?_
  refine r_fieldAddr (k := ?_)
  refine r_load_one (k := ?_)
  refine r_fieldAddr (k := ?_)
  refine r_load_one (k := ?_)
  refine o_nil 37 256 ?_
  refine r_append (n := 0) (xs := []) (mm := d.pages.xs.length) (news := pgsV d.pages.xs) (by exact tl rfl) (by exact z37) (by kernel_rfl) rfl (by exact rfl) (by exact rfl) (by iterate 24 (first | exact .head _ | apply List.Mem.tail | skip)) hpl (pgsV_one _) (by omega) (by omega) (by exact rfl) fun v1 h1 g1 => ?_
  refine r_fieldAddr (k := ?_)
  refine r_store1 (k := ?_)
  refine sl_nil ?_
  refine sp_then ?_
  refine sw_seq ?_
  refine sw_region ?_
  refine r_fieldAddr (k := ?_)
  refine r_load_one (k := ?_)
  refine r_fieldAddr (k := ?_)
  refine r_load_one (k := ?_)
  refine o_nil 147 257 ?_
  refine r_append (n := 0) (xs := []) (mm := d.cache.xs.length) (news := wrsV d.cache.xs) (by exact tl rfl) (by exact z147) (by kernel_rfl) rfl (by exact rfl) (by exact rfl) (by iterate 24 (first | exact .head _ | apply List.Mem.tail | skip)) hcl (wrsV_one _) (by omega) (by omega) (by exact rfl) fun v2 h2 g2 => ?_
  refine r_fieldAddr (k := ?_)
  refine r_store1 (k := ?_)
  refine sl_nil ?_
  refine sp_then ?_
  refine sw_seq ?_
  refine sw_region ?_
  refine r_fieldAddr (k := ?_)
  refine r_load_one (k := ?_)
  refine r_fieldAddr (k := ?_)
  refine r_load_one (k := ?_)
  refine o_nil 3 1 ?_
  refine r_append (n := 0) (xs := []) (mm := d.bad.xs.length) (news := isV d.bad.xs) (by exact tl rfl) (by exact z3) (by kernel_rfl) rfl (by exact rfl) (by exact rfl) (by iterate 24 (first | exact .head _ | apply List.Mem.tail | skip)) (by rw [hbl, Nat.mul_one]) (isV_one _) (by omega) (by omega) (by exact rfl) fun v3 h3 g3 => ?_
  refine r_fieldAddr (k := ?_)
  refine r_store1 (k := ?_)
  refine sl_nil ?_
  refine sp_then ?_
  refine sw_seq ?_
  refine sw_region ?_
  refine r_load_all (k := ?_)
  refine r_store_all (cs := [.slice none 0 0, .slice none 0 0, .slice none 0 0, vb false]) (vs := [v1, v2, v3, vb d.off]) (by exact tz rfl) (by exact rfl) (by exact rfl) (by iterate 24 (first | exact .hd | apply Upd.tl | skip)) rfl rfl (by rw [List.all_cons, g1, List.all_cons, g2, List.all_cons, g3]; rfl) rfl ?_
  refine sl_nil ?_
  refine sp_then ?_
  refine sw_ret ?_
  refine sp_pull 1 rfl ?_
  refine sp_pull 2 rfl ?_
  refine sp_retv rfl rfl (.agg rfl (tz rfl) rfl (by iterate 24 (first | exact .head _ | apply List.Mem.tail | skip))) rfl rfl ⟨v1, v2, v3, ⟨h1, g1⟩, ⟨h2, g2⟩, ⟨h3, g3⟩, rfl, by simp only [Nat.zero_add]; rfl, rfl⟩ (.cons_cons _ (.cons_cons _ (.cons_cons _ (List.nil_sublist _)))) rfl (by simp)

def DiskP.detach (d : DiskP) : DiskP := { d with cache := [], off := true }
def DiskP.attach (d : DiskP) : DiskP := { d with off := false }
theorem detach_fine {d : DiskP} (h : d.fine) : d.detach.fine := ⟨h.n0, h.n1, Nat.zero_le _, h.pg, fun x hx => (by cases hx), fun x hx => (by cases hx), h.bd, fun _ => rfl⟩
theorem attach_fine {d : DiskP} (h : d.fine) : d.attach.fine := ⟨h.n0, h.n1, h.c, h.pg, h.cd, h.ca, h.bd, fun e => by cases e⟩
theorem c_detach (G : Res) (d : DiskV) (hd : d.ok) : Ctr Tryd.prog G 34 [d.v] [] [d.rp, d.rc, d.rb] (retFz d.pure.detach) := by
  refine Ctr.intro Tryd.func34 (by kernel_rfl) rfl Tryd.ntmps34 rfl rfl rfl fun w' X => ?_
  refine sw_seq ?_
  refine sw_region ?_
  refine r_box (cs := d.cs) (by exact rfl) rfl (by exact rfl) fun b1 => ?_
  refine r_alloc (by exact z60) (by exact rfl) (by exact rfl) fun b2 => ?_
  refine sl_nil ?_
  refine sp_then ?_
  refine sw_seq ?_
  refine sw_region ?_
  refine r_load_all (k := ?_)
  refine r_call (Bp := []) (c_own G d hd) (by exact rfl) (by exact rfl) (by exact rfl) (PhAll.all (by repeat' (first | trivial | exact .head _ | apply And.intro | apply List.Mem.tail))) (by exact rfl) ?_
  rintro _ _ _ ⟨v1, v2, v3, ⟨h1, g1⟩, ⟨h2, g2⟩, ⟨h3, g3⟩, rfl, rfl, rfl⟩
  refine r_alloc (by exact z60) (by exact rfl) (by exact rfl) fun b3 => ?_
  refine r_store_all (cs := [.slice none 0 0, .slice none 0 0, .slice none 0 0, vb false]) (vs := [v1, v2, v3, vb d.off]) (by exact tz rfl) (by exact rfl) (by exact rfl) (by iterate 24 (first | exact .hd | apply Upd.tl | skip)) rfl rfl (by rw [List.all_cons, g1, List.all_cons, g2, List.all_cons, g3]; rfl) rfl ?_
  refine sl_nil ?_
  refine sp_then ?_
  refine sw_seq ?_
  refine sw_region ?_
  refine r_fieldAddr (k := ?_)
  refine r_store1 (k := ?_)
  refine sl_nil ?_
  refine sp_then ?_
  refine sw_seq ?_
  refine sw_region ?_
  refine r_fieldAddr (k := ?_)
  refine r_store1 (k := ?_)
  refine sl_nil ?_
  refine sp_then ?_
  refine sw_seq ?_
  refine sw_region ?_
  refine r_load_all (k := ?_)
  refine r_store_all (cs := [.slice none 0 0, .slice none 0 0, .slice none 0 0, vb false]) (vs := [v1, .slice none 0 0, v3, vb true]) (by exact tz rfl) (by exact rfl) (by exact rfl) (by iterate 24 (first | exact .hd | apply Upd.tl | skip)) rfl rfl (by rw [List.all_cons, g1, List.all_cons, show Value.oneCell' (.slice none 0 0) = true from rfl, List.all_cons, g3]; rfl) rfl ?_
  refine o_drop rfl ?_
  refine o_pull 1 rfl ?_
  refine o_drop rfl ?_
  refine o_nil 147 257 ?_
  refine o_pull 1 rfl ?_
  refine o_disk (p := v1) (q := .slice none 0 0) (r := v3) (d := d.pure.detach) (detach_fine hd.f) fun x hx hxp p1 p2 p3 => ?_
  subst p1 p3
  have hxo : x.off = true := congrArg DiskP.off hxp
  refine sl_nil ?_
  refine sp_then ?_
  refine sw_ret ?_
  refine sp_retv rfl rfl (.agg rfl (tz rfl) rfl (.head _)) rfl rfl ⟨rfl, x, by rw [DiskV.v, DiskV.cs, hxo, ← p2], hx, hxp, rfl⟩ (by simp) rfl (PhAll.all (by repeat' (first | trivial | exact .head _ | apply And.intro | apply List.Mem.tail)))
theorem c_attach (G : Res) (d : DiskV) (hd : d.ok) : Ctr Tryd.prog G 41 [d.v] [] [d.rp, d.rc, d.rb] (retFz d.pure.attach) := by
  refine Ctr.intro Tryd.func41 (by kernel_rfl) rfl Tryd.ntmps41 rfl rfl rfl fun w' X => ?_
  refine sw_seq ?_
  refine sw_region ?_
  refine r_box (cs := d.cs) (by exact rfl) rfl (by exact rfl) fun b1 => ?_
  refine r_alloc (by exact z60) (by exact rfl) (by exact rfl) fun b2 => ?_
  refine sl_nil ?_
  refine sp_then ?_
  refine sw_seq ?_
  refine sw_region ?_
  refine r_load_all (k := ?_)
  refine r_call (Bp := []) (c_own G d hd) (by exact rfl) (by exact rfl) (by exact rfl) (PhAll.all (by repeat' (first | trivial | exact .head _ | apply And.intro | apply List.Mem.tail))) (by exact rfl) ?_
  rintro _ _ _ ⟨v1, v2, v3, ⟨h1, g1⟩, ⟨h2, g2⟩, ⟨h3, g3⟩, rfl, rfl, rfl⟩
  refine r_alloc (by exact z60) (by exact rfl) (by exact rfl) fun b3 => ?_
  refine r_store_all (cs := [.slice none 0 0, .slice none 0 0, .slice none 0 0, vb false]) (vs := [v1, v2, v3, vb d.off]) (by exact tz rfl) (by exact rfl) (by exact rfl) (by iterate 24 (first | exact .hd | apply Upd.tl | skip)) rfl rfl (by rw [List.all_cons, g1, List.all_cons, g2, List.all_cons, g3]; rfl) rfl ?_
  refine sl_nil ?_
  refine sp_then ?_
  refine sw_seq ?_
  refine sw_region ?_
  refine r_fieldAddr (k := ?_)
  refine r_store1 (k := ?_)
  refine sl_nil ?_
  refine sp_then ?_
  refine sw_seq ?_
  refine sw_region ?_
  refine r_load_all (k := ?_)
  refine r_store_all (cs := [.slice none 0 0, .slice none 0 0, .slice none 0 0, vb false]) (vs := [v1, v2, v3, vb false]) (by exact tz rfl) (by exact rfl) (by exact rfl) (by iterate 24 (first | exact .hd | apply Upd.tl | skip)) rfl rfl (by rw [List.all_cons, g1, List.all_cons, g2, List.all_cons, g3]; rfl) rfl ?_
  refine o_drop rfl ?_
  refine o_disk (p := v1) (q := v2) (r := v3) (d := d.pure.attach) (attach_fine hd.f) fun x hx hxp p1 p2 p3 => ?_
  subst p1 p2 p3
  have hxo : x.off = false := congrArg DiskP.off hxp
  refine sl_nil ?_
  refine sp_then ?_
  refine sw_ret ?_
  refine sp_retv rfl rfl (.agg rfl (tz rfl) rfl (.head _)) rfl rfl ⟨rfl, x, by rw [DiskV.v, DiskV.cs, hxo], hx, hxp, rfl⟩ (by simp) rfl (PhAll.all (by repeat' (first | trivial | exact .head _ | apply And.intro | apply List.Mem.tail)))
end Go.Proofs.YtjahiohlekdhoaaDoor

namespace Go.Proofs.YtjahiohlekdhoaaDoor
open Go

/-- Slots by numbers, each disk's own ones; all anchors have both disks. -/
def Sym2 (A : List AncV) (L : Bool → Nat → Nat) : Prop := ∀ b n, n < 4 → (atA A b n).tx.toNat = L b n ∧ (¬ L b n = 0 → (atA A b n).live = 3)
theorem void_sym2 {A : List AncV} {L : Bool → Nat → Nat} (hA : A.length = 8) (h : Sym2 A L) (b : Bool) (n : Nat) : voidA A b n = false := by
  obtain ⟨a0, a1, a2, a3, a4, a5, a6, a7, rfl⟩ := eight hA
  have key : ∀ (x y : AncV) (b' : Bool) (j : Nat), (y.tx.toNat = L b' j ∧ (¬ L b' j = 0 → y.live = 3)) → voidBy x y b = false := fun x y b' j hy => by
    by_cases h0 : L b' j = 0
    · simp [voidBy, hy.1, h0]
    · simp [voidBy, hy.2 h0, has3]
  have hany : ((([a0, a1, a2, a3, a4, a5, a6, a7] : List AncV).drop (bN (!b) * 4)).take 4).any (fun y => voidBy (([a0, a1, a2, a3, a4, a5, a6, a7] : List AncV).getD (bN b * 4 + n) zeroA) y b) = false := by
    cases b
    · simp [bN, key _ a4 _ 0 (h true 0 (by decide)), key _ a5 _ 1 (h true 1 (by decide)), key _ a6 _ 2 (h true 2 (by decide)), key _ a7 _ 3 (h true 3 (by decide))]
    · simp [bN, key _ a0 _ 0 (h false 0 (by decide)), key _ a1 _ 1 (h false 1 (by decide)), key _ a2 _ 2 (h false 2 (by decide)), key _ a3 _ 3 (h false 3 (by decide))]
  unfold voidA
  rw [hany, Bool.and_false]
structure Nums2 (s : NSt) (n0 n1 na : Nat) : Prop where
  l0 : s.l0.tx.toNat = n0
  l1 : s.l1.tx.toNat = n1
  a : s.a.tx.toNat = na
  v : ∀ b, ¬ (s.l b).tx.toNat = 0 → (s.l b).live = 3
theorem nums_step2 {A : List AncV} {L : Bool → Nat → Nat} (hA : A.length = 8) (h : Sym2 A L) {s : NSt} {n0 n1 na : Nat} (hs : Nums2 s n0 n1 na) (b : Bool) (k : Nat) (hk : k < 4) :
    Nums2 (NSt.step A s (bN b, k)) (bif b then n0 else max n0 (L b k)) (bif b then max n1 (L b k) else n1) (max na (L b k)) := by
  have e : NSt.step A s (bN b, k) = (s.up b (atA A b k)).see k (atA A b k) false := by
    unfold NSt.step; rw [show decide ((bN b, k).1 = 1) = b by cases b <;> rfl, void_sym2 hA h]
  have ht := (h b k hk).1
  rw [e]
  refine ⟨?_, ?_, ?_, fun b' h0 => ?_⟩
  rotate_left 3
  · rw [see_l] at h0 ⊢
    rcases up_v s b b' (atA A b k) with e | e
    · rw [e] at h0 ⊢; exact hs.v b' h0
    · rw [e] at h0 ⊢; exact (h b k hk).2 (fun q => h0 (ht.trans q))
  · have := up_l s b false (atA A b k)
    rw [show ((s.up b (atA A b k)).see k (atA A b k) false).l0 = ((s.up b (atA A b k)).see k (atA A b k) false).l false from rfl, see_l, this, ht]
    cases b <;> simp [NSt.l, hs.l0]
  · have := up_l s b true (atA A b k)
    rw [show ((s.up b (atA A b k)).see k (atA A b k) false).l1 = ((s.up b (atA A b k)).see k (atA A b k) false).l true from rfl, see_l, this, ht]
    cases b <;> simp [NSt.l, hs.l1]
  · rw [see_a, NSt.up_a, hs.a, ht]
theorem nums_all2 {A : List AncV} {L : Bool → Nat → Nat} (hA : A.length = 8) (h : Sym2 A L) : Nums2 (NSt.all A) (maxL (L false)) (maxL (L true)) (max (maxL (L false)) (maxL (L true))) := by
  have h0 : Nums2 NSt.zero 0 0 0 := ⟨rfl, rfl, rfl, fun b h => absurd (by cases b <;> rfl) h⟩
  have h1 := nums_step2 hA h h0 false 0 (by decide)
  have h2 := nums_step2 hA h h1 true 0 (by decide)
  have h3 := nums_step2 hA h h2 false 1 (by decide)
  have h4 := nums_step2 hA h h3 true 1 (by decide)
  have h5 := nums_step2 hA h h4 false 2 (by decide)
  have h6 := nums_step2 hA h h5 true 2 (by decide)
  have h7 := nums_step2 hA h h6 false 3 (by decide)
  have h8 := nums_step2 hA h h7 true 3 (by decide)
  have e : NSt.all A = NSt.step A (NSt.step A (NSt.step A (NSt.step A (NSt.step A (NSt.step A (NSt.step A (NSt.step A NSt.zero (bN false, 0)) (bN true, 0)) (bN false, 1)) (bN true, 1)) (bN false, 2)) (bN true, 2)) (bN false, 3)) (bN true, 3) := rfl
  rw [e]
  obtain ⟨q0, q1, q2, q4⟩ := h8
  refine ⟨q0.trans ?_, q1.trans ?_, q2.trans ?_, q4⟩
  · simp [maxL]
  · simp [maxL]
  · simp only [maxL, Nat.zero_max]; ac_rfl
theorem newE_sym2 {A : List AncV} {L : Bool → Nat → Nat} {live : UInt8} (hl : ¬ live.toNat = 0) (hA : A.length = 8) (h : Sym2 A L) (hp : 0 < max (maxL (L false)) (maxL (L true))) : newE live (NSt.all A) = 0 := by
  have q := nums_all2 hA h
  unfold newE
  rw [if_neg hl, q.l0, q.l1, q.a, if_neg (by omega), if_neg]
  rintro (h' | ⟨h0, _, h', _⟩)
  · omega
  · have hv : (NSt.all A).l0.live = 3 := q.v false (by rw [show (NSt.all A).l false = (NSt.all A).l0 from rfl, q.l0]; omega)
    rw [hv, has3] at h'
    cases h'
/-- The newest one stands in a slot. -/
theorem newest_at {A : List AncV} (hA : A.length = 8) (h : ¬ (NSt.all A).a.tx.toNat = 0) : ∃ b n, n < 4 ∧ (NSt.all A).a = atA A b n := by
  rcases NSt.fold_mem A placesL NSt.zero (.inl rfl) with e | e
  · exact absurd (by show (List.foldl (NSt.step A) NSt.zero placesL).a.tx.toNat = 0; rw [e]; rfl) h
  · obtain ⟨j, hj, hje⟩ := List.mem_iff_getElem.1 e
    rw [hA] at hj
    have hat : ∀ b n, bN b * 4 + n = j → (NSt.all A).a = atA A b n := fun b n hbn => by
      show (List.foldl (NSt.step A) NSt.zero placesL).a = A.getD (bN b * 4 + n) zeroA
      rw [hbn, ← hje]; simp [List.getD, hA, hj]
    by_cases h4 : j < 4
    · exact ⟨false, j, h4, hat false j (by simp [bN])⟩
    · exact ⟨true, j - 4, by omega, hat true (j - 4) (by simp [bN]; omega)⟩

theorem lasts_pages (n : Nat) (pg : List (List UInt8)) (hn : n < pg.length) : ∀ R : List WrV, (∀ x ∈ R, 0 ≤ x.at') → (pagesAt pg R.reverse).getD n [] = match lastsOf (n : Int) R with
    | p :: _ => p
    | [] => pg.getD n []
  | [], _ => rfl
  | w :: R, hR => by
    have ih := lasts_pages n pg hn R fun x hx => hR x (.tail _ hx)
    have hw := hR w (.head _)
    unfold pagesAt at ih ⊢
    rw [List.reverse_cons, List.foldl_append]
    show (List.set (List.foldl (fun pg w => pg.set w.at'.toNat w.data) pg R.reverse) w.at'.toNat w.data).getD n [] = _
    have hl : (List.foldl (fun pg w => pg.set w.at'.toNat w.data) pg R.reverse).length = pg.length := pagesAt_len R.reverse pg
    rw [lastsOf]
    by_cases e : w.at' = (n : Int)
    · rw [if_pos e, List.getD_eq_getElem?_getD, e, Int.toNat_natCast, List.getElem?_set_self (by omega)]; rfl
    · rw [if_neg e, List.getD_eq_getElem?_getD, List.getElem?_set_ne (by omega), ← List.getD_eq_getElem?_getD, ih]
theorem read_flush {d : DiskP} (h : d.fine) (hb : d.bad = []) {n : Nat} (hn : n < d.pages.length) : d.flush.read n = d.read n := by
  have e := lasts_pages n d.pages hn d.cache.reverse fun x hx => (h.ca x (List.mem_reverse.1 hx)).1
  rw [List.reverse_reverse] at e
  unfold DiskP.read
  show (if hasN [] (n : Int) then _ else ((pagesAt d.pages d.cache).getD n [], (0 : Int))) = _
  rw [if_neg (by simp [hasN]), e, hb]
  cases lastsOf (n : Int) d.cache.reverse with
  | nil => rw [if_neg (by simp [hasN])]
  | cons p l => rfl
theorem slot_flush {d : DiskP} (h : d.fine) (hb : d.bad = []) {n : Nat} (hn : n < 4) : d.flush.slot n = d.slot n := by
  have h32 := h.n0
  unfold DiskP.slot
  rw [read_flush h hb (by omega), show d.flush.off = d.off from rfl]
  have : ∀ a : AncP, fitsS a d.flush n = fitsS a d n := fun a => by
    unfold fitsS
    rw [show d.flush.pages.length = d.pages.length from pagesAt_len d.cache d.pages]
  simp only [this]
theorem holds_flush {d : DiskP} {n i : Nat} {T : Nat → AncP} (h : d.holds n i T) : d.flush.holds n 0 T ∧ d.flush.bare :=
  ⟨⟨flush_fine h.fine, h.off, rfl, (pagesAt_len d.cache d.pages).trans h.len, Nat.zero_le _, fun m hm => (slot_flush h.fine h.bad hm).trans (h.slot m hm)⟩, rfl, rfl⟩
theorem PutI.get {p s : PairV} {a : AncV} {q : Bool → Bool} (h : PutI p a q 2 s) (k : Bool) : (s.get k).ok ∧ (s.get k).pure = (p.get k).pure.put a (q k) := by
  cases k
  · exact ⟨h.o0, h.e0⟩
  · exact ⟨h.o1, h.e1⟩
theorem FlushI.get {p s : PairV} (h : FlushI p 2 s) (k : Bool) : (s.get k).ok ∧ (s.get k).pure = (p.get k).pure.flushed := by
  cases k
  · exact ⟨h.o0, h.e0⟩
  · exact ⟨h.o1, h.e1⟩
end Go.Proofs.YtjahiohlekdhoaaDoor

namespace Go.Proofs.YtjahiohlekdhoaaDoor
open Go
set_option maxHeartbeats 4000000
set_option maxRecDepth 4000
attribute [local irreducible] SW SL SP RA Then FQ IQ LoopQ RQ AQ NX CutQ Exit.noGoto

theorem c_ints0 (G : Res) (ba ba' : Option Addr) (cap cap' : Nat) : Ctr Tryd.prog G 107 [.slice ba 0 cap, .slice ba' 0 cap'] [] [] (ret1 (vb true)) := by
  refine Ctr.intro Tryd.func107 (by kernel_rfl) rfl Tryd.ntmps107 rfl rfl rfl fun w' X => ?_
  refine sw_seq ?_
  refine sw_region ?_
  refine r_assign (k := ?_)
  refine sl_nil ?_
  refine sp_then ?_
  refine sw_seq ?_
  refine sw_seq ?_
  refine sw_region ?_
  refine r_move (k := ?_)
  refine r_len (k := ?_)
  refine r_move (k := ?_)
  refine r_len (k := ?_)
  refine r_neq (k := ?_)
  refine sl_nil ?_
  refine sp_then ?_
  refine w_re (t := 10) (v' := vb false) rfl rfl ?_
  refine swd_f (h := ?_)
  refine sw_skip ?_
  refine sp_then ?_
  refine sw_seq ?_
  refine sw_seq ?_
  refine sw_region ?_
  refine r_assign (k := ?_)
  refine sl_nil ?_
  refine sp_then ?_
  refine sw_block ?_
  refine sw_loop (ι := Unit) (fun _ => [(0, .slice ba 0 cap), (5, vi 0)]) (fun _ => []) (fun _ => []) (fun _ => []) (fun _ => 0) () ?_ fun _ => ?_
  · exact Ent.mk' (by repeat' (first | trivial | exact rfl | apply And.intro)) (by repeat' (first | trivial | exact .head _ | apply And.intro | apply List.Mem.tail))
  refine sw_seq ?_
  refine sw_seq ?_
  refine sw_region ?_
  refine r_move (k := ?_)
  refine r_move (k := ?_)
  refine r_len (k := ?_)
  refine r_lss (k := ?_)
  refine sl_nil ?_
  refine sp_then ?_
  refine w_re (t := 14) (v' := vb false) rfl rfl ?_
  refine swd_f (h := ?_)
  refine sw_exit ?_
  refine sp_then_exit ?_
  refine sp_loop_exit ?_
  refine sp_block_exit ?_
  refine sp_then ?_
  refine sw_seq ?_
  refine sw_region ?_
  refine r_assign (k := ?_)
  refine sl_nil ?_
  refine sp_then ?_
  refine sw_ret ?_
  refine sp_retv rfl rfl (.tmp rfl) rfl rfl ⟨rfl, rfl, rfl⟩ (by simp) rfl (by simp)

theorem c_r3same (G : Res) (d e : DiskV) (hd : d.ok) (he : e.ok) (h : d.pure = e.pure) (hb : d.pure.bare) : Ctr Tryd.prog G 80 [d.v, e.v] [] [d.rp, d.rc, d.rb, e.rp, e.rc, e.rb] (ret1 (vb true)) := by
  have hn1 : d.pages.xs.length ≤ 64 := hd.f.n1
  have hpg : d.pages.xs = e.pages.xs := congrArg DiskP.pages h
  have hdc : d.cache.xs = [] := hb.c
  have hec : e.cache.xs = [] := (congrArg DiskP.cache h.symm).trans hb.c
  have hdb : d.bad.xs = [] := hb.b
  have heb : e.bad.xs = [] := (congrArg DiskP.bad h.symm).trans hb.b
  have hof : d.off = e.off := congrArg DiskP.off h
  have hpl : (pgsV d.pages.xs).length = d.pages.xs.length * 256 := pgsV_len hd.f
  refine Ctr.intro Tryd.func80 (by kernel_rfl) rfl Tryd.ntmps80 rfl rfl rfl fun w' X => ?_
  have hpe : e.pages.xs.length = d.pages.xs.length := by rw [hpg]
  have hpl' : (pgsV e.pages.xs).length = e.pages.xs.length * 256 := pgsV_len he.f
  refine sw_seq ?_
  refine sw_region ?_
  refine r_box (cs := d.cs) (by exact rfl) rfl (by exact rfl) fun b2 => ?_
  refine r_box (cs := e.cs) (by exact rfl) rfl (by exact rfl) fun b3 => ?_
  refine r_assign (k := ?_)
  refine sl_nil ?_
  refine sp_then ?_
  refine sw_seq ?_
  refine sw_seq ?_
  refine sw_region ?_
  refine r_fieldAddr (k := ?_)
  refine r_load_one (k := ?_)
  refine r_len (k := ?_)
  refine r_fieldAddr (k := ?_)
  refine r_load_one (k := ?_)
  refine r_len (k := ?_)
  refine r_neq (k := ?_)
  refine r_move (k := ?_)
  refine r_re (t := 14) (v' := vb false) rfl (by rw [hpe]; simp) ?_
  refine gd_yes (k := ?_)
  refine r_fieldAddr (k := ?_)
  refine gd_yes (k := ?_)
  refine r_load_one (k := ?_)
  refine gd_yes (k := ?_)
  refine r_len (k := ?_)
  refine gd_yes (k := ?_)
  refine r_fieldAddr (k := ?_)
  refine gd_yes (k := ?_)
  refine r_load_one (k := ?_)
  refine gd_yes (k := ?_)
  refine r_len (k := ?_)
  refine gd_yes (k := ?_)
  refine r_neq (k := ?_)
  refine rd_pick_f (k := ?_)
  refine r_move (k := ?_)
  refine r_re (t := 23) (v' := vb false) rfl (by rw [hdc, hec]; rfl) ?_
  refine gd_yes (k := ?_)
  refine r_fieldAddr (k := ?_)
  refine gd_yes (k := ?_)
  refine r_load_one (k := ?_)
  refine gd_yes (k := ?_)
  refine r_fieldAddr (k := ?_)
  refine gd_yes (k := ?_)
  refine r_load_one (k := ?_)
  refine gd_yes (k := ?_)
  refine r_neqb' (k := ?_)
  refine rd_pick_f (k := ?_)
  refine r_move (k := ?_)
  refine r_re (t := 30) (v' := vb false) rfl (by rw [hof]; cases e.off <;> rfl) ?_
  refine gd_yes (k := ?_)
  refine r_fieldAddr (k := ?_)
  refine gd_yes (k := ?_)
  refine r_load_one (k := ?_)
  refine gd_yes (k := ?_)
  refine r_fieldAddr (k := ?_)
  refine gd_yes (k := ?_)
  refine r_load_one (k := ?_)
  refine gd_yes (k := ?_)
  have e32 : d.bad.v = .slice d.bad.ba 0 d.bad.cap := by rw [Sl.v, hdb]; rfl
  have e34 : e.bad.v = .slice e.bad.ba 0 e.bad.cap := by rw [Sl.v, heb]; rfl
  refine r_re (t := 32) (v' := .slice d.bad.ba 0 d.bad.cap) rfl e32 ?_
  refine r_re (t := 34) (v' := .slice e.bad.ba 0 e.bad.cap) rfl e34 ?_
  refine r_call1 (c_ints0 G d.bad.ba e.bad.ba d.bad.cap e.bad.cap) (by exact rfl) (by exact rfl) (by exact rfl) (by simp) (by exact rfl) ?_
  refine gd_yes (k := ?_)
  refine r_not (k := ?_)
  refine rd_pick_f (k := ?_)
  refine sl_nil ?_
  refine sp_then ?_
  refine swd_f (h := ?_)
  refine sw_skip ?_
  refine sp_then ?_
  refine sw_seq ?_
  refine sw_seq ?_
  refine sw_region ?_
  refine r_assign (k := ?_)
  refine sl_nil ?_
  refine sp_then ?_
  refine sw_block ?_
  refine w_re (t := 37) (v' := vb false) rfl rfl ?_
  skip
  refine sw_loop (ι := { i : Nat // i ≤ d.pages.xs.length }) (fun i => [(2, .pointer (some ⟨b2, 0, none⟩)), (3, .pointer (some ⟨b3, 0, none⟩)), (5, vi (i.1 : Int))]) (fun _ => [.box b3 e.cs 60, .box b2 d.cs 60]) (fun _ => [d.rp, e.rp]) (fun _ => []) (fun i => d.pages.xs.length - i.1) ⟨0, by omega⟩ ?_ fun i => ?_
  · exact Ent.mk' (by repeat' (first | trivial | exact rfl | apply And.intro)) (by repeat' (first | trivial | exact .head _ | apply And.intro | apply List.Mem.tail))
  obtain ⟨i, hi⟩ := i
  dsimp only
  refine sw_seq ?_
  refine sw_seq ?_
  refine sw_region ?_
  refine r_move (k := ?_)
  refine r_fieldAddr (k := ?_)
  refine r_load_one (k := ?_)
  refine r_len (k := ?_)
  refine r_lss (k := ?_)
  refine sl_nil ?_
  refine sp_then ?_
  refine sw_cond rfl (fun h => ?_) (fun h => ?_)
  · have h := of_decide_eq_true h
    have hi' : i < d.pages.xs.length := by omega
    have hie : i < e.pages.xs.length := by omega
    have hl1 : d.pages.xs[i].length = 256 := hd.f.pg _ (List.getElem_mem hi')
    have hl2 : (bv d.pages.xs[i]).length = 256 := by rw [bv_len, hl1]
    have hee : e.pages.xs[i] = d.pages.xs[i] := by simp [hpg]
    have hpa : part' (pgsV d.pages.xs) (i * 256) 256 = bv d.pages.xs[i] := fm_at _ i (pgsV_h hd.f) hi'
    have hpb : part' (pgsV e.pages.xs) (i * 256) 256 = bv d.pages.xs[i] := (fm_at e.pages.xs i (pgsV_h he.f) hie).trans (congrArg bv hee)
    refine sw_skip ?_
    refine sp_then ?_
    refine sw_seq ?_
    refine sw_block ?_
    refine sw_seq ?_
    
    refine sw_draw [(none, .box b3 e.cs 60), (none, .box b2 d.cs 60)] [d.rp, e.rp] [0, 1, 2, 3, 4, 5, 6, 7, 8, 9, 10] mix (by kernel_rfl) rfl ?_
    refine ra_first 0 [] [1, 2, 3, 4, 5, 6, 7, 8, 9, 10] (hq := by exact q_fieldAddr) (k := ?_)
    refine ra_first 1 [(none, .box b3 e.cs 60), (none, .box b2 d.cs 60)] [2, 3, 4, 5, 6, 7, 8, 9, 10] (hq := by first | exact q_load_one | exact q_load_all | exact q_load_fr1 | exact q_load_fr) (k := ?_)
    refine ra_first 2 [] [3, 4, 5, 6, 7, 8, 9, 10] (hq := by exact q_move) (k := ?_)
    refine ra_first 3 [] [4, 5, 6, 7, 8, 9, 10] (hq := by exact q_idx (i := i) (cs := pgsV d.pages.xs) (by exact tl rfl) (by exact rfl) (by exact rfl) (by omega) (by omega) (.head _) (by rw [hpl]; exact Nat.le_refl _) (by exact rfl) (by exact Int.toNat_natCast _)) (k := ?_)
    refine ra_first 4 [(none, .box b3 e.cs 60), (none, .box b2 d.cs 60)] [5, 6, 7, 8, 9, 10] (hq := by exact q_load_mem (o := i * 256) (cs := pgsV d.pages.xs) (vs := bv d.pages.xs[i]) (by exact tz rfl) (by exact rfl) (.head _) hpa rfl hl2) (k := ?_)
    refine ra_first 5 [] [6, 7, 8, 9, 10] (hq := by exact q_fieldAddr) (k := ?_)
    refine ra_first 6 [(none, .box b3 e.cs 60), (none, .box b2 d.cs 60)] [7, 8, 9, 10] (hq := by first | exact q_load_one | exact q_load_all | exact q_load_fr1 | exact q_load_fr) (k := ?_)
    refine ra_first 7 [] [8, 9, 10] (hq := by exact q_move) (k := ?_)
    refine ra_first 8 [] [9, 10] (hq := by exact q_idx (i := i) (cs := pgsV e.pages.xs) (by exact tl rfl) (by exact rfl) (by exact rfl) (by omega) (by omega) (.tail _ (.head _)) (by rw [hpl']; exact Nat.le_refl _) (by exact rfl) (by exact Int.toNat_natCast _)) (k := ?_)
    refine ra_first 9 [(none, .box b3 e.cs 60), (none, .box b2 d.cs 60)] [10] (hq := by exact q_load_mem (o := i * 256) (cs := pgsV e.pages.xs) (vs := bv d.pages.xs[i]) (by exact tz rfl) (by exact rfl) (.tail _ (.head _)) hpb rfl hl2) (k := ?_)
    refine ra1 (i := 10) [] (h := ?_)
    refine r_neagg (xs := (bv d.pages.xs[i]).toArray) (ys := (bv d.pages.xs[i]).toArray) (by exact rfl) (by exact rfl) (by kernel_rfl) (page_eq d.pages.xs[i] d.pages.xs[i] hl1 hl1) (by exact rfl) ?_
    refine sl_nil ?_
    refine sp_nx (k := ?_)
    refine ra_done ?_
    refine sp_re (t := 55) (v' := vb false) rfl (by simp) ?_
    refine sp_then ?_
    refine swd_f (h := ?_)
    refine sw_skip ?_
    refine sp_block ?_
    refine sp_then ?_
    refine sw_region ?_
    refine r_move (k := ?_)
    refine r_add64 (k := ?_)
    refine r_assign (k := ?_)
    refine sl_nil ?_
    refine sp_loop (ι := { i : Nat // i ≤ d.pages.xs.length }) ⟨i + 1, by omega⟩ ?_ ?_
    · dsimp only; omega
    · exact Ent.mk' (by repeat' (first | trivial | exact rfl | apply And.intro)) (by repeat' (first | trivial | exact .head _ | apply And.intro | apply List.Mem.tail))
  have h := of_decide_eq_false h
  refine sw_exit ?_
  refine sp_then_exit ?_
  refine sp_loop_exit ?_
  refine sp_block_exit ?_
  refine sp_then ?_
  refine sw_seq ?_
  refine sw_seq ?_
  refine sw_region ?_
  refine r_assign (k := ?_)
  refine sl_nil ?_
  refine sp_then ?_
  refine sw_block ?_
  refine sw_loop (ι := Unit) (fun _ => [(2, .pointer (some ⟨b2, 0, none⟩)), (6, vi 0)]) (fun _ => [.box b3 e.cs 60, .box b2 d.cs 60]) (fun _ => []) (fun _ => []) (fun _ => 0) () ?_ fun _ => ?_
  · exact Ent.mk' (by repeat' (first | trivial | exact rfl | apply And.intro)) (by repeat' (first | trivial | exact .head _ | apply And.intro | apply List.Mem.tail))
  refine sw_seq ?_
  refine sw_seq ?_
  refine sw_region ?_
  refine r_move (k := ?_)
  refine r_fieldAddr (k := ?_)
  refine r_load_one (k := ?_)
  refine r_len (k := ?_)
  refine r_lss (k := ?_)
  refine sl_nil ?_
  refine sp_then ?_
  refine w_re (t := 60) (v' := vb false) rfl (by rw [hdc]; rfl) ?_
  refine swd_f (h := ?_)
  refine sw_exit ?_
  refine sp_then_exit ?_
  refine sp_loop_exit ?_
  refine sp_block_exit ?_
  refine sp_then ?_
  refine sw_seq ?_
  refine sw_region ?_
  refine r_assign (k := ?_)
  refine sl_nil ?_
  refine sp_then ?_
  refine sw_ret ?_
  refine sp_retv rfl rfl (.tmp rfl) rfl rfl ⟨rfl, rfl, rfl⟩ (by simp) rfl (by simp)

theorem c_r10same (G : Res) (p q : PairV) (h0 : p.d0.ok) (h1 : p.d1.ok) (g0 : q.d0.ok) (g1 : q.d1.ok) (e0 : p.d0.pure = q.d0.pure) (e1 : p.d1.pure = q.d1.pure) (b0 : p.d0.pure.bare) (b1 : p.d1.pure.bare) :
    Ctr Tryd.prog G 43 [p.v, q.v] [] [p.d0.rp, p.d0.rc, p.d0.rb, p.d1.rp, p.d1.rc, p.d1.rb, q.d0.rp, q.d0.rc, q.d0.rb, q.d1.rp, q.d1.rc, q.d1.rb] (ret1 (vb true)) := by
  refine Ctr.intro Tryd.func43 (by kernel_rfl) rfl Tryd.ntmps43 rfl rfl rfl fun w' X => ?_
  refine sw_seq ?_
  refine sw_region ?_
  refine r_box (cs := p.cs) (by exact rfl) rfl (by exact rfl) fun b2 => ?_
  refine r_box (cs := q.cs) (by exact rfl) rfl (by exact rfl) fun b3 => ?_
  refine r_assign (k := ?_)
  refine sl_nil ?_
  refine sp_then ?_
  refine sw_seq ?_
  refine sw_region ?_
  refine r_fieldAddr (k := ?_)
  refine r_load_one (k := ?_)
  refine r_fieldAddr (k := ?_)
  refine r_load_one (k := ?_)
  refine r_eql (k := ?_)
  refine r_move (k := ?_)
  refine r_re (t := 10) (v' := vb true) rfl rfl ?_
  refine gd_yes (k := ?_)
  refine r_fieldAddr (k := ?_)
  refine gd_yes (k := ?_)
  refine r_load_one (k := ?_)
  refine gd_yes (k := ?_)
  refine r_fieldAddr (k := ?_)
  refine gd_yes (k := ?_)
  refine r_load_one (k := ?_)
  refine gd_yes (k := ?_)
  refine r_eqlb' (k := ?_)
  refine rd_pick_t (k := ?_)
  refine r_move (k := ?_)
  refine r_re (t := 17) (v' := vb true) rfl rfl ?_
  refine gd_yes (k := ?_)
  refine r_fieldAddr (k := ?_)
  refine gd_yes (k := ?_)
  refine r_idx_arr (k := ?_)
  refine gd_yes (k := ?_)
  refine r_load_agg (k := ?_)
  refine gd_yes (k := ?_)
  refine r_fieldAddr (k := ?_)
  refine gd_yes (k := ?_)
  refine r_idx_arr (k := ?_)
  refine gd_yes (k := ?_)
  refine r_load_agg (k := ?_)
  refine gd_yes (k := ?_)
  refine r_call1 (c_r3same G p.d0 q.d0 h0 g0 e0 b0) (by exact rfl) (by exact rfl) (by exact rfl) (PhAll.all (by repeat' (first | trivial | exact .head _ | apply And.intro | apply List.Mem.tail))) (by exact rfl) ?_
  refine rd_pick_t (k := ?_)
  refine r_move (k := ?_)
  refine gd_yes (k := ?_)
  refine r_fieldAddr (k := ?_)
  refine gd_yes (k := ?_)
  refine r_idx_arr (k := ?_)
  refine gd_yes (k := ?_)
  refine r_load_agg (k := ?_)
  refine gd_yes (k := ?_)
  refine r_fieldAddr (k := ?_)
  refine gd_yes (k := ?_)
  refine r_idx_arr (k := ?_)
  refine gd_yes (k := ?_)
  refine r_load_agg (k := ?_)
  refine gd_yes (k := ?_)
  refine r_call1 (c_r3same G p.d1 q.d1 h1 g1 e1 b1) (by exact rfl) (by exact rfl) (by exact rfl) (PhAll.all (by repeat' (first | trivial | exact .head _ | apply And.intro | apply List.Mem.tail))) (by exact rfl) ?_
  refine rd_pick_t (k := ?_)
  refine r_assign (k := ?_)
  refine sl_nil ?_
  refine sp_then ?_
  refine sw_ret ?_
  refine sp_retv rfl rfl (.tmp rfl) rfl rfl ⟨rfl, rfl, rfl⟩ (by simp) rfl (by simp)
end Go.Proofs.YtjahiohlekdhoaaDoor

namespace Go.Proofs.YtjahiohlekdhoaaDoor
open Go

theorem live_pos (p : PairV) (k : Bool) (h : (p.get k).off = false) : ¬ (liveN p).toNat = 0 := by
  unfold liveN
  cases k
  · rw [show p.d0.off = false from h]; cases p.d1.off <;> decide
  · rw [show p.d1.off = false from h]; cases p.d0.off <;> decide
theorem get_set (p : PairV) (k : Bool) (x : DiskV) : (p.set k x).get k = x := by cases k <;> rfl
theorem get_set_not (p : PairV) (k : Bool) (x : DiskV) : (p.set (!k) x).get k = p.get k := by cases k <;> rfl
theorem get_set_not' (p : PairV) (k : Bool) (x : DiskV) : (p.set k x).get (!k) = p.get (!k) := by cases k <;> rfl
theorem put_of_off {d : DiskP} (h : d.off = true) (a : AncV) (q : Bool) : d.put a q = d := by unfold DiskP.put; rw [if_neg fun e => by rw [h] at e; cases e.2.1]
theorem put_no (d : DiskP) (a : AncV) : d.put a false = d := by unfold DiskP.put; rw [if_neg fun e => by cases e.2.2]
theorem put_pages (d : DiskP) (a : AncV) (q : Bool) : (d.put a q).pages = d.pages := by unfold DiskP.put; split <;> rfl
theorem both {P : Bool → Prop} (k : Bool) (h : P k) (h' : P (!k)) : ∀ b, P b := fun b => by
  cases k <;> cases b <;> assumption

/-- What is known between two puts of RingHeals. -/
structure HealL (n len : Nat) (k : Bool) (i : Nat) (tx : UInt32) (f : Nat → UInt32) (p : PairV) : Prop where
  ok : ∀ b, (p.get b).ok
  le : tx.toNat ≤ 100 * i
  all : ∀ m, m < 4 → (f m).toNat ≤ tx.toNat
  hit : 0 < i → 0 < tx.toNat ∧ f (tx % 4).toNat = tx
  a : (p.get k).pure.holds n i (lastT n f)
  b : if i < len then (p.get (!k)).pure.holds n i (lastT n f) ∧ (p.get (!k)).pure.pages = (DiskP.fresh n).pages else (p.get (!k)).pure = (DiskP.fresh n).detach
/-- Behind what the last one asks. -/
structure HealM (n len : Nat) (k : Bool) (i : Nat) (p p1 : PairV) : Prop where
  ok : ∀ b, (p1.get b).ok
  a : (p1.get k).pure = (p.get k).pure
  b : (p1.get (!k)).pure = if i + 1 = len then (DiskP.fresh n).detach else (p.get (!k)).pure
theorem HealL.next {n len i j : Nat} {k : Bool} {tx t : UInt32} {f : Nat → UInt32} {p p1 s : PairV} (h : HealL n len k i tx f p) (hi : i < len) (hl : len ≤ 6) (h1 : HealM n len k i p p1) (ht : t.toNat = tx.toNat + j) (hj : 1 ≤ j ∧ j ≤ 100) (hrt : (plainA t (UInt16.ofNat n) 3 t).right = true) (hn1 : n ≤ 64) (q : PutI p1 (plainA t (UInt16.ofNat n) 3 t) yes 2 s) : HealL n len k (i + 1) t (putF f t) s := by
  have ht0 : ¬ t = 0 := fun e => by have := u32_zero.2 e; omega
  have hle := h.le
  have hb := h.b
  rw [if_pos hi] at hb
  have hp : ∀ d : DiskP, d.holds n i (lastT n f) → (d.put (plainA t (UInt16.ofNat n) 3 t) true).holds n (i + 1) (lastT n (putF f t)) := fun d hd =>
    (holds_put hd (by omega) _ hrt (plain_size t n hn1)).congr fun m _ => last_put n f t ht0 m
  refine ⟨fun b => (q.get b).1, by omega, fun m hm => ?_, fun _ => ⟨by omega, ?_⟩, ?_, ?_⟩
  · unfold putF
    split
    · exact Nat.le_refl _
    · have := h.all m hm; omega
  · unfold putF; rw [if_pos rfl]
  · rw [(q.get k).2, h1.a]; exact hp _ h.a
  · rw [(q.get (!k)).2, h1.b]
    by_cases e : i + 1 = len
    · rw [if_pos e, if_neg (by omega)]; exact put_of_off rfl _ _
    · rw [if_neg e, if_pos (by omega)]
      exact ⟨hp _ hb.1, (put_pages _ _ _).trans hb.2⟩
theorem HealL.mx {n len i : Nat} {k : Bool} {tx : UInt32} {f : Nat → UInt32} {p : PairV} (h : HealL n len k i tx f p) (hi : 0 < i) : maxL (lastL f) = tx.toNat := by
  have h0 := h.all 0 (by decide)
  have h1 := h.all 1 (by decide)
  have h2 := h.all 2 (by decide)
  have h3 := h.all 3 (by decide)
  have e := congrArg UInt32.toNat (h.hit hi).2
  have h4 := mod4 tx
  unfold maxL lastL
  generalize (tx % 4).toNat = m at *
  obtain rfl | rfl | rfl | rfl : m = 0 ∨ m = 1 ∨ m = 2 ∨ m = 3 := by omega
  all_goals omega
/-- A pair of which one disk went on, the other one being as new. -/
structure Torn (n i : Nat) (k : Bool) (tx : UInt32) (f : Nat → UInt32) (p : PairV) : Prop where
  ok : ∀ b, (p.get b).ok
  a : (p.get k).pure.holds n i (lastT n f)
  b : (p.get (!k)).pure = DiskP.fresh n
  pos : 0 < tx.toNat
  hit : f (tx % 4).toNat = tx
  mx : maxL (lastL f) = tx.toNat
  n0 : 32 ≤ n
  n1 : n ≤ 64
  i1 : i ≤ 6
  tm : tx.toNat ≤ 1073741824
def tornL (k : Bool) (f : Nat → UInt32) (b : Bool) (m : Nat) : Nat := if b = k then lastL f m else 0
theorem at_get {p : PairV} {A : List AncV} (hA : A.map AncV.pure = (List.range 4).map p.d0.pure.slot ++ (List.range 4).map p.d1.pure.slot) (b : Bool) {m : Nat} (hm : m < 4) : (atA A b m).pure = (p.get b).pure.slot m := by
  rw [at_pure hA b hm]; cases b <;> rfl
section
variable {n i : Nat} {k : Bool} {tx : UInt32} {f : Nat → UInt32} {p : PairV} (h : Torn n i k tx f p)
include h
theorem Torn.sym {A : List AncV} (hA : A.map AncV.pure = (List.range 4).map p.d0.pure.slot ++ (List.range 4).map p.d1.pure.slot) : A.length = 8 ∧ Sym2 A (tornL k f) := by
  refine ⟨by have := congrArg List.length hA; simpa using this, fun b m hm => ?_⟩
  have e := at_get hA b hm
  have e3 : (atA A b m).tx = ((p.get b).pure.slot m).tx := congrArg AncP.tx e
  have e4 : (atA A b m).live = ((p.get b).pure.slot m).live := congrArg AncP.live e
  rw [e3, e4]
  unfold tornL
  by_cases hb : b = k
  · subst hb
    rw [if_pos rfl, h.a.slot m hm]
    exact last_an n f m hm
  · obtain rfl : b = !k := by cases b <;> cases k <;> simp_all
    rw [if_neg hb, h.b, (holds_fresh h.n0 h.n1).slot m hm]
    exact ⟨rfl, fun h => absurd rfl h⟩
theorem Torn.newest {A : List AncV} (hA : A.map AncV.pure = (List.range 4).map p.d0.pure.slot ++ (List.range 4).map p.d1.pure.slot) : newE (liveN p) (NSt.all A) = 0 ∧ (NSt.all A).a.tx.toNat = tx.toNat ∧ (NSt.all A).a.pure = (plainA tx (UInt16.ofNat n) 3 tx).pure := by
  obtain ⟨hA8, hS⟩ := h.sym hA
  have hpos := h.pos
  have e0 : maxL (fun _ => 0) = 0 := rfl
  have hm : Nat.max (maxL (tornL k f false)) (maxL (tornL k f true)) = tx.toNat := by
    have hmx := h.mx
    cases k
    · rw [show tornL false f false = lastL f from rfl, show tornL false f true = fun _ => 0 from rfl, hmx, e0]; exact Nat.max_eq_left (Nat.zero_le _)
    · rw [show tornL true f true = lastL f from rfl, show tornL true f false = fun _ => 0 from rfl, hmx, e0]; exact Nat.max_eq_right (Nat.zero_le _)
  have hm' : max (maxL (tornL k f false)) (maxL (tornL k f true)) = tx.toNat := hm
  have hlo : (p.get k).off = false := h.a.off
  have ha : (NSt.all A).a.tx.toNat = tx.toNat := (nums_all2 hA8 hS).a.trans hm'
  refine ⟨newE_sym2 (live_pos p k hlo) hA8 hS (by omega), ha, ?_⟩
  obtain ⟨b, m, hm4, e⟩ := newest_at hA8 (by rw [ha]; omega)
  have e2 := at_get hA b hm4
  rw [e] at ha ⊢
  have e3 : (atA A b m).tx = ((p.get b).pure.slot m).tx := congrArg AncP.tx e2
  rw [e2]
  by_cases hb : b = k
  · subst hb
    rw [e3, h.a.slot m hm4] at ha
    rw [h.a.slot m hm4]
    unfold lastT at ha ⊢
    by_cases hf : f m = 0
    · rw [if_pos hf] at ha; exact absurd ha (by show ¬ 0 = tx.toNat; omega)
    · rw [if_neg hf] at ha ⊢
      have : f m = tx := UInt32.toNat_inj.1 ha
      rw [this]
  · obtain rfl : b = !k := by cases b <;> cases k <;> simp_all
    rw [e3, h.b, (holds_fresh h.n0 h.n1).slot m hm4] at ha
    exact absurd ha (by show ¬ 0 = tx.toNat; omega)
/-- Healed: each disk has the anchor, and nothing waits. -/
theorem Torn.heal {a : AncV} (ha : a.pure = (plainA tx (UInt16.ofNat n) 3 tx).pure) {h' : PairV} (hh : HealI p a (healQ p a) h') :
    ∀ b, (h'.get b).ok ∧ (h'.get b).pure.bare ∧ (h'.get b).pure.off = false ∧ (h'.get b).pure.slot (tx % 4).toNat = a.pure := by
  have hpos := h.pos
  have hr : a.right = true := (right_pure ha).trans (plain_right tx n h.n0 h.n1 hpos h.tm)
  have he : (encV a).2 = 0 := by unfold encV; rw [if_pos hr]
  have hatx : a.tx = tx := congrArg AncP.tx ha
  have hasz : a.size.toNat = n := by
    have : a.size = UInt16.ofNat n := congrArg AncP.size ha
    rw [this]; exact plain_size tx n h.n1
  have h4 := mod4 tx
  have ht0 : ¬ tx = 0 := fun e => by have := u32_zero.2 e; omega
  have hsk : (p.get k).pure.slot (a.tx % 4).toNat = a.pure := by
    rw [hatx, h.a.slot _ h4, ha]
    unfold lastT
    rw [h.hit, if_neg ht0]
  have hsn : (p.get (!k)).pure.slot (a.tx % 4).toNat = AncP.zero := by rw [hatx, h.b, (holds_fresh h.n0 h.n1).slot _ h4]
  have hqk : healQ p a k = false := by unfold healQ; rw [hsk]; simp
  have hqn : healQ p a (!k) = true := by
    unfold healQ; rw [hsn]
    have : ¬ AncP.zero = a.pure := fun e => by
      have := congrArg AncP.tx e
      rw [ha] at this
      exact ht0 this.symm
    simp [this]
  have hon : (p.get (!k)).off = false := by have := congrArg DiskP.off h.b; exact this
  obtain ⟨s, hs, hf⟩ := hh
  have hN : 0 < putN' p a (healQ p a) 2 := by
    have h1 : putC p a (healQ p a) (!k) = 1 := if_pos ⟨he, hon, hqn⟩
    show 0 < putC p a (healQ p a) false + putC p a (healQ p a) true
    cases k
    · rw [show putC p a (healQ p a) true = 1 from h1]; omega
    · rw [show putC p a (healQ p a) false = 1 from h1]; omega
  rw [if_pos ⟨he, hN⟩] at hf
  have key : ∀ b, ∀ T : Nat → AncP, (s.get b).pure.holds n 7 T → T (tx % 4).toNat = a.pure → (h'.get b).ok ∧ (h'.get b).pure.bare ∧ (h'.get b).pure.off = false ∧ (h'.get b).pure.slot (tx % 4).toNat = a.pure := fun b T hT hTt => by
    have e := (hf.get b).2
    have e2 : (h'.get b).pure = (s.get b).pure.flush := e.trans (if_pos hT.off)
    obtain ⟨g1, g2⟩ := holds_flush hT
    refine ⟨(hf.get b).1, by rw [e2]; exact g2, by rw [e2]; exact g1.off, by rw [e2, g1.slot _ h4, hTt]⟩
  refine both k ?_ ?_
  · have e := (hs.get k).2
    rw [hqk, put_no] at e
    refine key k (lastT n f) (by rw [e]; exact ⟨h.a.fine, h.a.off, h.a.bad, h.a.len, Nat.le_trans h.a.cache (by have := h.i1; omega), h.a.slot⟩) ?_
    have := hsk
    rw [hatx, h.a.slot _ h4] at this
    exact this
  · have e := (hs.get (!k)).2
    rw [hqn, h.b] at e
    have g := holds_put (holds_fresh h.n0 h.n1) (by decide) a hr hasz
    refine key (!k) _ (by rw [e]; exact ⟨g.fine, g.off, g.bad, g.len, Nat.le_trans g.cache (by decide), g.slot⟩) ?_
    rw [hatx, if_pos rfl]
end
/-- Healed anew: as it is. -/
theorem heal_again {p s : PairV} {a : AncV} (hs : ∀ b, (p.get b).pure.slot (a.tx % 4).toNat = a.pure) (hh : HealI p a (healQ p a) s) : ∀ b, (s.get b).ok ∧ (s.get b).pure = (p.get b).pure := by
  have hq : ∀ b, healQ p a b = false := fun b => by unfold healQ; rw [hs b]; simp
  have hc : ∀ b, putC p a (healQ p a) b = 0 := fun b => if_neg fun h => by rw [hq b] at h; cases h.2.2
  obtain ⟨s', h1, h2⟩ := hh
  have hN : ¬ 0 < putN' p a (healQ p a) 2 := by
    show ¬ 0 < putC p a (healQ p a) false + putC p a (healQ p a) true
    rw [hc, hc]; decide
  rw [if_neg fun h => hN h.2] at h2
  subst h2
  intro b
  have e := (h1.get b).2
  rw [hq b, put_no] at e
  exact ⟨(h1.get b).1, e⟩
end Go.Proofs.YtjahiohlekdhoaaDoor

namespace Go.Proofs.YtjahiohlekdhoaaDoor
open Go

theorem maxL_eq {L : Nat → Nat} {t s : Nat} (h : ∀ m, m < 4 → L m ≤ t) (hs : s < 4) (e : L s = t) : maxL L = t := by
  have h0 := h 0 (by decide)
  have h1 := h 1 (by decide)
  have h2 := h 2 (by decide)
  have h3 := h 3 (by decide)
  unfold maxL
  obtain rfl | rfl | rfl | rfl : s = 0 ∨ s = 1 ∨ s = 2 ∨ s = 3 := by omega
  all_goals omega
def txN (A : List AncV) (b : Bool) (m : Nat) : Nat := (atA A b m).tx.toNat
def okN (A : List AncV) (b : Bool) (m : Nat) : Nat := if voidA A b m = true then 0 else (atA A b m).tx.toNat
theorem see_aG (s : NSt) (k : Nat) (y : AncV) (v : Bool) : (s.see k y v).a.tx.toNat = max s.a.tx.toNat (if v = true then 0 else y.tx.toNat) := by
  cases v
  · rw [see_a]; rfl
  · unfold NSt.see; rw [if_pos (.inr rfl)]; simp
/-- What is known of any two disks. -/
structure NumsG (A : List AncV) (s : NSt) (n0 n1 na : Nat) : Prop where
  l0 : s.l0.tx.toNat = n0
  l1 : s.l1.tx.toNat = n1
  a : s.a.tx.toNat = na
  l : ∀ b, s.l b = zeroA ∨ ∃ m, m < 4 ∧ s.l b = atA A b m
theorem nums_stepG (A : List AncV) {s : NSt} {n0 n1 na : Nat} (hs : NumsG A s n0 n1 na) (b : Bool) (k : Nat) (hk : k < 4) :
    NumsG A (NSt.step A s (bN b, k)) (bif b then n0 else max n0 (txN A b k)) (bif b then max n1 (txN A b k) else n1) (max na (okN A b k)) := by
  have e : NSt.step A s (bN b, k) = (s.up b (atA A b k)).see k (atA A b k) (voidA A b k) := by
    unfold NSt.step; rw [show decide ((bN b, k).1 = 1) = b by cases b <;> rfl]
  rw [e]
  refine ⟨?_, ?_, ?_, fun b' => ?_⟩
  rotate_left 3
  · rw [see_l]
    by_cases hb : b = b'
    · subst hb
      rcases up_v s b b (atA A b k) with e | e
      · rw [e]; exact hs.l b
      · rw [e]; exact .inr ⟨k, hk, rfl⟩
    · have : (s.up b (atA A b k)).l b' = s.l b' := by
        unfold NSt.up; split
        · cases b <;> cases b' <;> simp_all [NSt.setL, NSt.l]
        · rfl
      rw [this]; exact hs.l b'
  · have := up_l s b false (atA A b k)
    rw [show ((s.up b (atA A b k)).see k (atA A b k) (voidA A b k)).l0 = ((s.up b (atA A b k)).see k (atA A b k) (voidA A b k)).l false from rfl, see_l, this]
    cases b <;> simp [NSt.l, hs.l0, txN]
  · have := up_l s b true (atA A b k)
    rw [show ((s.up b (atA A b k)).see k (atA A b k) (voidA A b k)).l1 = ((s.up b (atA A b k)).see k (atA A b k) (voidA A b k)).l true from rfl, see_l, this]
    cases b <;> simp [NSt.l, hs.l1, txN]
  · rw [see_aG, NSt.up_a, hs.a]; rfl
theorem nums_allG (A : List AncV) : NumsG A (NSt.all A) (maxL (txN A false)) (maxL (txN A true)) (max (maxL (okN A false)) (maxL (okN A true))) := by
  have h0 : NumsG A NSt.zero 0 0 0 := ⟨rfl, rfl, rfl, fun b => .inl (by cases b <;> rfl)⟩
  have h1 := nums_stepG A h0 false 0 (by decide)
  have h2 := nums_stepG A h1 true 0 (by decide)
  have h3 := nums_stepG A h2 false 1 (by decide)
  have h4 := nums_stepG A h3 true 1 (by decide)
  have h5 := nums_stepG A h4 false 2 (by decide)
  have h6 := nums_stepG A h5 true 2 (by decide)
  have h7 := nums_stepG A h6 false 3 (by decide)
  have h8 := nums_stepG A h7 true 3 (by decide)
  have e : NSt.all A = NSt.step A (NSt.step A (NSt.step A (NSt.step A (NSt.step A (NSt.step A (NSt.step A (NSt.step A NSt.zero (bN false, 0)) (bN true, 0)) (bN false, 1)) (bN true, 1)) (bN false, 2)) (bN true, 2)) (bN false, 3)) (bN true, 3) := rfl
  rw [e]
  obtain ⟨q0, q1, q2, q4⟩ := h8
  refine ⟨q0.trans ?_, q1.trans ?_, q2.trans ?_, q4⟩
  · simp [maxL]
  · simp [maxL]
  · simp only [maxL, Nat.zero_max]; ac_rfl

/-- The anchors of a history that one disk alone went on with. -/
def goT (s0 s1 : Nat) (P0 P1 : AncP) (m : Nat) : AncP := if m = s1 then P1 else if m = s0 then P0 else AncP.zero
section
variable {A : List AncV} {s0 s1 : Nat} {P0 P1 : AncP} {b : Bool} (h : ∀ m, m < 4 → (atA A b m).pure = goT s0 s1 P0 P1 m) (hs : s1 < 4) (hlt : P0.tx.toNat < P1.tx.toNat)
include h hs hlt
theorem go_max : maxL (txN A b) = P1.tx.toNat := by
  have e : ∀ m, m < 4 → txN A b m = (goT s0 s1 P0 P1 m).tx.toNat := fun m hm => by
    show (atA A b m).tx.toNat = _
    rw [show (atA A b m).tx = (goT s0 s1 P0 P1 m).tx from congrArg AncP.tx (h m hm)]
  refine maxL_eq (s := s1) (fun m hm => ?_) hs ?_
  · rw [e m hm]
    unfold goT
    split
    · exact Nat.le_refl _
    · split
      · omega
      · exact Nat.zero_le _
  · rw [e s1 hs]; unfold goT; rw [if_pos rfl]
theorem go_last : ((NSt.all A).l b).tx.toNat = P1.tx.toNat ∧ ((NSt.all A).l b).live = P1.live := by
  have hm := go_max h hs hlt
  have g := nums_allG A
  have ht : ((NSt.all A).l b).tx.toNat = P1.tx.toNat := by
    cases b
    · exact g.l0.trans hm
    · exact g.l1.trans hm
  refine ⟨ht, ?_⟩
  rcases g.l b with e | ⟨m, hm4, e⟩
  · rw [e] at ht
    have : (0 : Nat) = P1.tx.toNat := ht
    omega
  · rw [e] at ht ⊢
    have e2 := h m hm4
    have e3 : (atA A b m).tx = (goT s0 s1 P0 P1 m).tx := congrArg AncP.tx e2
    have e4 : (atA A b m).live = (goT s0 s1 P0 P1 m).live := congrArg AncP.live e2
    rw [e3] at ht
    rw [e4]
    unfold goT at ht ⊢
    by_cases h1 : m = s1
    · rw [if_pos h1]
    · rw [if_neg h1] at ht
      split at ht
      · omega
      · have : (0 : Nat) = P1.tx.toNat := ht
        omega
end
/-- TWO HISTORIES. -/
theorem split_e {A : List AncV} {s0 s1 s2 : Nat} {P0 P1 P2 : AncP} {live : UInt8} (hl : ¬ live.toNat = 0) (hA : ∀ m, m < 4 → (atA A false m).pure = goT s0 s1 P0 P1 m) (hB : ∀ m, m < 4 → (atA A true m).pure = goT s0 s2 P0 P2 m) (h1 : s1 < 4) (h2 : s2 < 4)
    (g1 : P0.tx.toNat < P1.tx.toNat) (g2 : P0.tx.toNat < P2.tx.toNat) (l1 : P1.live = 1) (l2 : P2.live = 2) : newE live (NSt.all A) = 121 := by
  obtain ⟨a1, a2⟩ := go_last hA h1 g1
  obtain ⟨b1, b2⟩ := go_last hB h2 g2
  have a1 : (NSt.all A).l0.tx.toNat = P1.tx.toNat := a1
  have b1 : (NSt.all A).l1.tx.toNat = P2.tx.toNat := b1
  have a2 : (NSt.all A).l0.live = 1 := by rw [← l1]; exact a2
  have b2 : (NSt.all A).l1.live = 2 := by rw [← l2]; exact b2
  unfold newE
  rw [if_neg hl, a1, b1, if_neg (by omega), a2, b2, if_pos (.inr ⟨by omega, by omega, by decide, by decide⟩)]
/-- ONE WENT ON. -/
theorem alone_e {A : List AncV} {s0 s1 : Nat} {P0 P1 : AncP} {live : UInt8} (hl : ¬ live.toNat = 0) (hA8 : A.length = 8) (hA : ∀ m, m < 4 → (atA A false m).pure = goT s0 s1 P0 P1 m) (hB : ∀ m, m < 4 → (atA A true m).pure = goT s0 s0 P0 P0 m) (h0 : s0 < 4) (h1 : s1 < 4)
    (g1 : P0.tx.toNat < P1.tx.toNat) (g0 : 0 < P0.tx.toNat) (l0 : P0.live = 3) (l1 : P1.live = 1) : newE live (NSt.all A) = 0 ∧ (NSt.all A).a.tx.toNat = P1.tx.toNat ∧ ∀ m, m < 4 → voidA A false m = false := by
  have eB : ∀ m, m < 4 → (atA A true m).tx.toNat ≤ P0.tx.toNat ∧ (0 < (atA A true m).tx.toNat → (atA A true m).live = 3) := fun m hm => by
    have e2 := hB m hm
    have e3 : (atA A true m).tx = (goT s0 s0 P0 P0 m).tx := congrArg AncP.tx e2
    have e4 : (atA A true m).live = (goT s0 s0 P0 P0 m).live := congrArg AncP.live e2
    rw [e3, e4]
    unfold goT
    split
    · exact ⟨Nat.le_refl _, fun _ => l0⟩
    · exact ⟨Nat.zero_le _, fun h => absurd h (Nat.lt_irrefl 0)⟩
  have eA : ∀ m, m < 4 → (atA A false m).tx.toNat ≤ P1.tx.toNat := fun m hm => by
    have e3 : (atA A false m).tx = (goT s0 s1 P0 P1 m).tx := congrArg AncP.tx (hA m hm)
    rw [e3]
    unfold goT
    split
    · exact Nat.le_refl _
    · split
      · omega
      · exact Nat.zero_le _
  have hvA : ∀ m, m < 4 → voidA A false m = false := fun m hm => by
    obtain ⟨a0, a1, a2, a3, a4, a5, a6, a7, rfl⟩ := eight hA8
    have key : ∀ (x y : AncV), (0 < y.tx.toNat → y.live = 3) → voidBy x y false = false := fun x y hy => by
      by_cases h0 : 0 < y.tx.toNat
      · simp [voidBy, hy h0, has3]
      · simp [voidBy, h0]
    unfold voidA
    simp [bN, key _ a4 (eB 0 (by decide)).2, key _ a5 (eB 1 (by decide)).2, key _ a6 (eB 2 (by decide)).2, key _ a7 (eB 3 (by decide)).2]
  obtain ⟨a1, a2⟩ := go_last hA h1 g1
  have g := nums_allG A
  have hokA : ∀ m, m < 4 → okN A false m = txN A false m := fun m hm => if_neg (by rw [hvA m hm]; decide)
  have hmA : maxL (okN A false) = P1.tx.toNat := by
    rw [← go_max hA h1 g1]
    simp only [maxL, hokA 0 (by decide), hokA 1 (by decide), hokA 2 (by decide), hokA 3 (by decide)]
  have hmB : maxL (okN A true) ≤ P0.tx.toNat := by
    have e : ∀ m, m < 4 → okN A true m ≤ P0.tx.toNat := fun m hm => by
      unfold okN; split
      · exact Nat.zero_le _
      · exact (eB m hm).1
    have e0 := e 0 (by decide)
    have e1 := e 1 (by decide)
    have e2 := e 2 (by decide)
    have e3 := e 3 (by decide)
    unfold maxL
    omega
  have ha : (NSt.all A).a.tx.toNat = P1.tx.toNat := by rw [g.a, hmA]; exact Nat.max_eq_left (by omega)
  refine ⟨?_, ha, hvA⟩
  have hl1 : (NSt.all A).l1.tx.toNat = 0 ∨ hasL (NSt.all A).l1.live false = true := by
    rcases g.l true with e | ⟨m, hm4, e⟩
    · have e : (NSt.all A).l1 = zeroA := e
      rw [e]; exact .inl rfl
    · have e : (NSt.all A).l1 = atA A true m := e
      rw [e]
      by_cases hz : 0 < (atA A true m).tx.toNat
      · rw [(eB m hm4).2 hz]; exact .inr (has3 false)
      · exact .inl (by omega)
  have a1 : (NSt.all A).l0.tx.toNat = P1.tx.toNat := a1
  unfold newE
  rw [if_neg hl, a1, ha, if_neg (by omega), if_neg]
  rintro (h | ⟨_, h2, _, h4⟩)
  · omega
  · rcases hl1 with h | h
    · omega
    · rw [h] at h4; cases h4

/-! ### Slots renewed -/
theorem slot_inv {d : DiskP} (h : d.fine) (ho : d.off = false) {k : Nat} (hk : k < 4) : d.slot k = AncP.zero ∨ ∃ p, p.length = 256 ∧ (decP p).2 = 0 ∧ d.slot k = (decP p).1 ∧ fitsS (decP p).1 d k = true := by
  have h32 := h.n0
  unfold DiskP.slot
  rw [if_neg (by rw [ho]; decide)]
  split
  · split
    · rename_i h2
      exact .inr ⟨_, read_len h (by omega), h2.1, rfl, h2.2⟩
    · exact .inl rfl
  · exact .inl rfl
/-- The page that a slot is renewed with. -/
def pgOf (a : AncV) : List UInt8 := if a.tx.toNat = 0 then zeros 256 else (encV a).1
theorem pgOf_len (a : AncV) : (pgOf a).length = 256 := by
  unfold pgOf; split
  · exact List.length_replicate
  · exact encV_len a
theorem dec_pure (p : List UInt8) (h : (decP p).2 = 0) : ∃ a : AncV, (decP p).1 = a.pure := ⟨(decP p).1.withKey ⟨none, 0, (decP p).1.key⟩, rfl⟩
/-- A slot that is renewed with another disk's anchor tells it. -/
theorem slot_pgOf {d e : DiskP} (hd : d.fine) (hdo : d.off = false) (heo : e.off = false) (hl : d.pages.length = e.pages.length) {k : Nat} (hk : k < 4) {a : AncV} (ha : a.pure = d.slot k) (hr : e.read k = (pgOf a, 0)) : e.slot k = d.slot k := by
  rcases slot_inv hd hdo hk with h | ⟨p, hp, h1, h2, h3⟩
  · rw [h] at ha ⊢
    have hz : a.tx.toNat = 0 := by rw [show a.tx = 0 from congrArg AncP.tx ha]; rfl
    unfold DiskP.slot
    rw [if_neg (by rw [heo]; decide), hr, pgOf, if_pos hz, if_pos rfl, show decP (zeros 256) = (AncP.zero, 50) from zeros_dec, if_neg (fun h => absurd h.1 (by decide))]
  · rw [h2] at ha ⊢
    have hde : decP p = (a.pure, 0) := by rw [ha, ← h1]
    obtain ⟨hri, hpg⟩ := decP_page hp hde
    have htx := right_tx a hri
    have hnz : ¬ a.tx.toNat = 0 := by omega
    have he : encV a = (p, 0) := by unfold encV; rw [if_pos hri, hpg]
    unfold DiskP.slot
    have hf : fitsS (decP p).1 e k = true := by
      unfold fitsS at h3 ⊢
      rw [← hl]; exact h3
    rw [if_neg (by rw [heo]; decide), hr, pgOf, if_neg hnz, he, if_pos rfl, if_pos ⟨h1, hf⟩]
end Go.Proofs.YtjahiohlekdhoaaDoor
