/-
  The walk of sutureref03.Copy.
  The walks of sutureref03: which disks may be, flushed ones (of disks that are attached and have no bad page).
  The walk of sutureref04.Spoil, of a disk that has no bad page.
  Rings, plain: what RingSlots asks.
  The walk of the law RingSlots.
-/
import Derived.Test.YtjahiohlekdhoaaDoorRingSlotsM8
import Derived.Test.YtjahiohlekdhoaaDoorRingSlotsM7
namespace Go.Proofs.YtjahiohlekdhoaaDoor
open Go
set_option maxHeartbeats 4000000
set_option maxRecDepth 4000
attribute [local irreducible] SW SL SP RA Then FQ IQ LoopQ RQ AQ NX CutQ Exit.noGoto
attribute [local irreducible] CutE

theorem built_disk {v1 v2 v3 : Value} (h1 : v1.cells = #[v1]) (h2 : v2.cells = #[v2]) (h3 : v3.cells = #[v3]) {b : Bool} : Tryd.prog.built 60 [(0, v1), (1, v2), (2, v3), (3, vb b)] = some [v1, v2, v3, vb b].toArray := by
  have h : ∀ ps, Tryd.prog.built 60 ps = Instr.fill (#[(0, 1), (1, 1), (2, 1), (3, 1)][·]?) [Value.slice none 0 0, .slice none 0 0, .slice none 0 0, vb false].toArray ps := fun ps => by kernel_rfl
  rw [h, fill_cons (off := 0) (sz := 1) (vs := [v1]) rfl h1 rfl (by simp), fill_cons (off := 1) (sz := 1) (vs := [v2]) rfl h2 rfl (by simp [splice]), fill_cons (off := 2) (sz := 1) (vs := [v3]) rfl h3 rfl (by simp [splice]), fill_cons (off := 3) (sz := 1) (vs := [vb b]) rfl rfl rfl (by simp [splice]), Instr.fill]
  simp [splice]
theorem c_r3copy (G : Res) (d : DiskV) (hd : d.ok) : Ctr Tryd.prog G 98 [d.v] [] [d.rp, d.rc, d.rb] (retDisk d.pure) := by
  have hpl : (pgsV d.pages.xs).length = d.pages.xs.length * 256 := pgsV_len hd.f
  have hn1 : d.pages.xs.length ≤ 64 := hd.f.n1
  have hcl : (wrsV d.cache.xs).length = d.cache.xs.length * 257 := wrsV_len hd.f
  have hc : d.cache.xs.length ≤ 1000 := hd.f.c
  have hbl : (isV d.bad.xs).length = d.bad.xs.length := isV_len d.bad.xs
  have hb1 : d.bad.xs.length ≤ 1 := bad_len hd.f
  refine Ctr.intro Tryd.func98 (by kernel_rfl) rfl Tryd.ntmps98 rfl rfl rfl fun w' X => ?_
  refine sw_seq ?_
  refine sw_region ?_
  refine r_box (cs := d.cs) (by exact rfl) rfl (by exact rfl) fun b1 => ?_
  refine r_alloc (by exact z60) (by exact rfl) (by exact rfl) fun b2 => ?_
  refine sl_nil ?_
  refine sp_then ?_
  refine sw_seq ?_
  refine sw_thenE (ι := { v : Value × Value × Value // one v.1 ∧ one v.2.1 ∧ one v.2.2 }) (fun _ => [(2, .pointer (some ⟨b2, 0, none⟩))]) (fun v => [.row v.1.2.2 d.bad.xs.length (isV d.bad.xs) 3 1, .row v.1.2.1 d.cache.xs.length (wrsV d.cache.xs) 147 257, .row v.1.1 d.pages.xs.length (pgsV d.pages.xs) 37 256, .box b2 [v.1.1, v.1.2.1, v.1.2.2, vb d.off] 60, .box b1 d.cs 60]) (fun _ => []) [] ?_ fun v => ?_
  · 
    refine sw_draw [(none, .box b1 d.cs 60)] [d.rp, d.rc, d.rb] [0, 1, 2, 3, 4, 5, 6, 7, 8, 9, 10, 11, 12, 13, 14, 15] mix (by kernel_rfl) rfl ?_
    refine ra_first 1 [] [0, 2, 3, 4, 5, 6, 7, 8, 9, 10, 11, 12, 13, 14, 15] (hq := by exact q_fieldAddr) (k := ?_)
    refine ra_first 2 [(none, .box b1 d.cs 60)] [0, 3, 4, 5, 6, 7, 8, 9, 10, 11, 12, 13, 14, 15] (hq := by first | exact q_load_one | exact q_load_all | exact q_load_fr1 | exact q_load_fr) (k := ?_)
    refine ra_first 5 [] [0, 3, 4, 6, 7, 8, 9, 10, 11, 12, 13, 14, 15] (hq := by exact q_fieldAddr) (k := ?_)
    refine ra_first 6 [(none, .box b1 d.cs 60)] [0, 3, 4, 7, 8, 9, 10, 11, 12, 13, 14, 15] (hq := by first | exact q_load_one | exact q_load_all | exact q_load_fr1 | exact q_load_fr) (k := ?_)
    refine ra_first 9 [] [0, 3, 4, 7, 8, 10, 11, 12, 13, 14, 15] (hq := by exact q_fieldAddr) (k := ?_)
    refine ra_first 10 [(none, .box b1 d.cs 60)] [0, 3, 4, 7, 8, 11, 12, 13, 14, 15] (hq := by first | exact q_load_one | exact q_load_all | exact q_load_fr1 | exact q_load_fr) (k := ?_)
    refine ra_first 12 [] [0, 3, 4, 7, 8, 11, 13, 14, 15] (hq := by exact q_fieldAddr) (k := ?_)
    refine ra_first 13 [(none, .box b1 d.cs 60)] [0, 3, 4, 7, 8, 11, 14, 15] (hq := by first | exact q_load_one | exact q_load_all | exact q_load_fr1 | exact q_load_fr) (k := ?_)
    refine ra3 (i := 0) (j := 4) (k := 8) [3, 4, 7, 8, 11, 14, 15] [0, 3, 7, 8, 11, 14, 15] [0, 3, 4, 7, 11, 14, 15] (by kernel_rfl) rfl rfl rfl rfl rfl rfl ?_ ?_ ?_
    · 
      refine r_lit (vs := []) (xs := []) (cells := []) (by exact tl rfl) (by exact z37) rfl rfl (by simp) (by simp) (by simp) (by exact rfl) (by exact rfl) (by exact rfl) fun l0 => ?_
      refine sl_nil ?_
      refine sp_nx (k := ?_)
      refine ra3 (i := 3) (j := 4) (k := 8) [4, 7, 8, 11, 14, 15] [3, 7, 8, 11, 14, 15] [3, 4, 7, 11, 14, 15] (by kernel_rfl) rfl rfl rfl rfl rfl rfl ?_ ?_ ?_
      · 
        refine r_append (n := 0) (xs := []) (mm := d.pages.xs.length) (news := pgsV d.pages.xs) (by exact tl rfl) (by exact z37) (by kernel_rfl) rfl (by exact rfl) (by exact rfl) (by iterate 24 (first | exact .head _ | apply List.Mem.tail | skip)) hpl (pgsV_one _) (by omega) (by omega) (by exact rfl) fun v1 h1 g1 => ?_
        dsimp only [pull, push, two, List.drop, List.take, List.cons_append, List.nil_append]
        refine sl_nil ?_
        refine sp_nx (k := ?_)
        refine ra2 (i := 4) (j := 8) [7, 8, 11, 14, 15] [4, 7, 11, 14, 15] (by kernel_rfl) rfl rfl rfl rfl ?_ ?_
        · 
          refine r_lit (vs := []) (xs := []) (cells := []) (by exact tl rfl) (by exact z147) rfl rfl (by simp) (by simp) (by simp) (by exact rfl) (by exact rfl) (by exact rfl) fun l4 => ?_
          refine sl_nil ?_
          refine sp_nx (k := ?_)
          refine ra2 (i := 7) (j := 8) [8, 11, 14, 15] [7, 11, 14, 15] (by kernel_rfl) rfl rfl rfl rfl ?_ ?_
          · 
            refine r_append (n := 0) (xs := []) (mm := d.cache.xs.length) (news := wrsV d.cache.xs) (by exact tl rfl) (by exact z147) (by kernel_rfl) rfl (by exact rfl) (by exact rfl) (by iterate 24 (first | exact .head _ | apply List.Mem.tail | skip)) hcl (wrsV_one _) (by omega) (by omega) (by exact rfl) fun v2 h2 g2 => ?_
            dsimp only [pull, push, two, List.drop, List.take, List.cons_append, List.nil_append]
            refine sl_nil ?_
            refine sp_nx (k := ?_)
            refine ra1 (i := 8) [11, 14, 15] (h := ?_)
            refine r_lit (vs := []) (xs := []) (cells := []) (by exact tl rfl) (by exact z3) rfl rfl (by simp) (by simp) (by simp) (by exact rfl) (by exact rfl) (by exact rfl) fun l8 => ?_
            refine sl_nil ?_
            refine sp_nx (k := ?_)
            refine ra1 (i := 11) [14, 15] (h := ?_)
            refine r_append (n := 0) (xs := []) (mm := d.bad.xs.length) (news := isV d.bad.xs) (by exact tl rfl) (by exact z3) (by kernel_rfl) rfl (by exact rfl) (by exact rfl) (by iterate 24 (first | exact .head _ | apply List.Mem.tail | skip)) (by rw [hbl, Nat.mul_one]) (isV_one _) (by omega) (by omega) (by exact rfl) fun v3 h3 g3 => ?_
            dsimp only [pull, push, two, List.drop, List.take, List.cons_append, List.nil_append]
            refine sl_nil ?_
            refine sp_nx (k := ?_)
            refine ra1 (i := 14) [15] (h := ?_)
            refine r_buildP [v1, v2, v3, vb d.off] (parts := [(0, .tmp 6), (1, .tmp 10), (2, .tmp 14), (3, .tmp 16)]) (by exact rfl) (by rw [built_disk h1 h2 h3]) (by exact rfl) ?_
            refine sl_nil ?_
            refine sp_nx (k := ?_)
            refine ra1 (i := 15) [] (h := ?_)
            refine r_store_all (cs := [.slice none 0 0, .slice none 0 0, .slice none 0 0, vb false]) (vs := [v1, v2, v3, vb d.off]) (by exact tz rfl) (by exact rfl) (by exact rfl) (by iterate 24 (first | exact .hd | apply Upd.tl | skip)) rfl rfl (by rw [List.all_cons, g1, List.all_cons, g2, List.all_cons, g3]; rfl) rfl ?_
            refine sl_nil ?_
            refine sp_nx (k := ?_)
            refine ra_done ?_
            exact sp_cutE ⟨(v1, v2, v3), ⟨h1, g1⟩, ⟨h2, g2⟩, ⟨h3, g3⟩⟩ (by repeat' (first | trivial | exact rfl | apply And.intro)) (by repeat' (first | trivial | exact .head _ | apply And.intro | apply List.Mem.tail)) (by simp only [Nat.zero_add])
          · 
            refine r_lit (vs := []) (xs := []) (cells := []) (by exact tl rfl) (by exact z3) rfl rfl (by simp) (by simp) (by simp) (by exact rfl) (by exact rfl) (by exact rfl) fun l8 => ?_
            refine sl_nil ?_
            refine sp_nx (k := ?_)
            refine ra1 (i := 7) [11, 14, 15] (h := ?_)
            refine o_pull 1 rfl ?_
            refine r_append (n := 0) (xs := []) (mm := d.cache.xs.length) (news := wrsV d.cache.xs) (by exact tl rfl) (by exact z147) (by kernel_rfl) rfl (by exact rfl) (by exact rfl) (by iterate 24 (first | exact .head _ | apply List.Mem.tail | skip)) hcl (wrsV_one _) (by omega) (by omega) (by exact rfl) fun v2 h2 g2 => ?_
            dsimp only [pull, push, two, List.drop, List.take, List.cons_append, List.nil_append]
            refine sl_nil ?_
            refine sp_nx (k := ?_)
            refine ra1 (i := 11) [14, 15] (h := ?_)
            refine o_pull 1 rfl ?_
            refine r_append (n := 0) (xs := []) (mm := d.bad.xs.length) (news := isV d.bad.xs) (by exact tl rfl) (by exact z3) (by kernel_rfl) rfl (by exact rfl) (by exact rfl) (by iterate 24 (first | exact .head _ | apply List.Mem.tail | skip)) (by rw [hbl, Nat.mul_one]) (isV_one _) (by omega) (by omega) (by exact rfl) fun v3 h3 g3 => ?_
            dsimp only [pull, push, two, List.drop, List.take, List.cons_append, List.nil_append]
            refine sl_nil ?_
            refine sp_nx (k := ?_)
            refine ra1 (i := 14) [15] (h := ?_)
            refine r_buildP [v1, v2, v3, vb d.off] (parts := [(0, .tmp 6), (1, .tmp 10), (2, .tmp 14), (3, .tmp 16)]) (by exact rfl) (by rw [built_disk h1 h2 h3]) (by exact rfl) ?_
            refine sl_nil ?_
            refine sp_nx (k := ?_)
            refine ra1 (i := 15) [] (h := ?_)
            refine r_store_all (cs := [.slice none 0 0, .slice none 0 0, .slice none 0 0, vb false]) (vs := [v1, v2, v3, vb d.off]) (by exact tz rfl) (by exact rfl) (by exact rfl) (by iterate 24 (first | exact .hd | apply Upd.tl | skip)) rfl rfl (by rw [List.all_cons, g1, List.all_cons, g2, List.all_cons, g3]; rfl) rfl ?_
            refine sl_nil ?_
            refine sp_nx (k := ?_)
            refine ra_done ?_
            exact sp_cutE ⟨(v1, v2, v3), ⟨h1, g1⟩, ⟨h2, g2⟩, ⟨h3, g3⟩⟩ (by repeat' (first | trivial | exact rfl | apply And.intro)) (by repeat' (first | trivial | exact .head _ | apply And.intro | apply List.Mem.tail)) (by simp only [Nat.zero_add])
        · 
          refine r_lit (vs := []) (xs := []) (cells := []) (by exact tl rfl) (by exact z3) rfl rfl (by simp) (by simp) (by simp) (by exact rfl) (by exact rfl) (by exact rfl) fun l8 => ?_
          refine sl_nil ?_
          refine sp_nx (k := ?_)
          refine ra1 (i := 4) [7, 11, 14, 15] (h := ?_)
          refine r_lit (vs := []) (xs := []) (cells := []) (by exact tl rfl) (by exact z147) rfl rfl (by simp) (by simp) (by simp) (by exact rfl) (by exact rfl) (by exact rfl) fun l4 => ?_
          refine sl_nil ?_
          refine sp_nx (k := ?_)
          refine ra1 (i := 7) [11, 14, 15] (h := ?_)
          refine r_append (n := 0) (xs := []) (mm := d.cache.xs.length) (news := wrsV d.cache.xs) (by exact tl rfl) (by exact z147) (by kernel_rfl) rfl (by exact rfl) (by exact rfl) (by iterate 24 (first | exact .head _ | apply List.Mem.tail | skip)) hcl (wrsV_one _) (by omega) (by omega) (by exact rfl) fun v2 h2 g2 => ?_
          dsimp only [pull, push, two, List.drop, List.take, List.cons_append, List.nil_append]
          refine sl_nil ?_
          refine sp_nx (k := ?_)
          refine ra1 (i := 11) [14, 15] (h := ?_)
          refine o_pull 1 rfl ?_
          refine r_append (n := 0) (xs := []) (mm := d.bad.xs.length) (news := isV d.bad.xs) (by exact tl rfl) (by exact z3) (by kernel_rfl) rfl (by exact rfl) (by exact rfl) (by iterate 24 (first | exact .head _ | apply List.Mem.tail | skip)) (by rw [hbl, Nat.mul_one]) (isV_one _) (by omega) (by omega) (by exact rfl) fun v3 h3 g3 => ?_
          dsimp only [pull, push, two, List.drop, List.take, List.cons_append, List.nil_append]
          refine sl_nil ?_
          refine sp_nx (k := ?_)
          refine ra1 (i := 14) [15] (h := ?_)
          refine r_buildP [v1, v2, v3, vb d.off] (parts := [(0, .tmp 6), (1, .tmp 10), (2, .tmp 14), (3, .tmp 16)]) (by exact rfl) (by rw [built_disk h1 h2 h3]) (by exact rfl) ?_
          refine sl_nil ?_
          refine sp_nx (k := ?_)
          refine ra1 (i := 15) [] (h := ?_)
          refine r_store_all (cs := [.slice none 0 0, .slice none 0 0, .slice none 0 0, vb false]) (vs := [v1, v2, v3, vb d.off]) (by exact tz rfl) (by exact rfl) (by exact rfl) (by iterate 24 (first | exact .hd | apply Upd.tl | skip)) rfl rfl (by rw [List.all_cons, g1, List.all_cons, g2, List.all_cons, g3]; rfl) rfl ?_
          refine sl_nil ?_
          refine sp_nx (k := ?_)
          refine ra_done ?_
          exact sp_cutE ⟨(v1, v2, v3), ⟨h1, g1⟩, ⟨h2, g2⟩, ⟨h3, g3⟩⟩ (by repeat' (first | trivial | exact rfl | apply And.intro)) (by repeat' (first | trivial | exact .head _ | apply And.intro | apply List.Mem.tail)) (by simp only [Nat.zero_add])
      · 
        refine r_lit (vs := []) (xs := []) (cells := []) (by exact tl rfl) (by exact z147) rfl rfl (by simp) (by simp) (by simp) (by exact rfl) (by exact rfl) (by exact rfl) fun l4 => ?_
        refine sl_nil ?_
        refine sp_nx (k := ?_)
        refine ra2 (i := 3) (j := 8) [7, 8, 11, 14, 15] [3, 7, 11, 14, 15] (by kernel_rfl) rfl rfl rfl rfl ?_ ?_
        · 
          refine o_pull 1 rfl ?_
          refine r_append (n := 0) (xs := []) (mm := d.pages.xs.length) (news := pgsV d.pages.xs) (by exact tl rfl) (by exact z37) (by kernel_rfl) rfl (by exact rfl) (by exact rfl) (by iterate 24 (first | exact .head _ | apply List.Mem.tail | skip)) hpl (pgsV_one _) (by omega) (by omega) (by exact rfl) fun v1 h1 g1 => ?_
          dsimp only [pull, push, two, List.drop, List.take, List.cons_append, List.nil_append]
          refine sl_nil ?_
          refine sp_nx (k := ?_)
          refine ra2 (i := 7) (j := 8) [8, 11, 14, 15] [7, 11, 14, 15] (by kernel_rfl) rfl rfl rfl rfl ?_ ?_
          · 
            refine o_pull 1 rfl ?_
            refine r_append (n := 0) (xs := []) (mm := d.cache.xs.length) (news := wrsV d.cache.xs) (by exact tl rfl) (by exact z147) (by kernel_rfl) rfl (by exact rfl) (by exact rfl) (by iterate 24 (first | exact .head _ | apply List.Mem.tail | skip)) hcl (wrsV_one _) (by omega) (by omega) (by exact rfl) fun v2 h2 g2 => ?_
            dsimp only [pull, push, two, List.drop, List.take, List.cons_append, List.nil_append]
            refine sl_nil ?_
            refine sp_nx (k := ?_)
            refine ra1 (i := 8) [11, 14, 15] (h := ?_)
            refine r_lit (vs := []) (xs := []) (cells := []) (by exact tl rfl) (by exact z3) rfl rfl (by simp) (by simp) (by simp) (by exact rfl) (by exact rfl) (by exact rfl) fun l8 => ?_
            refine sl_nil ?_
            refine sp_nx (k := ?_)
            refine ra1 (i := 11) [14, 15] (h := ?_)
            refine r_append (n := 0) (xs := []) (mm := d.bad.xs.length) (news := isV d.bad.xs) (by exact tl rfl) (by exact z3) (by kernel_rfl) rfl (by exact rfl) (by exact rfl) (by iterate 24 (first | exact .head _ | apply List.Mem.tail | skip)) (by rw [hbl, Nat.mul_one]) (isV_one _) (by omega) (by omega) (by exact rfl) fun v3 h3 g3 => ?_
            dsimp only [pull, push, two, List.drop, List.take, List.cons_append, List.nil_append]
            refine sl_nil ?_
            refine sp_nx (k := ?_)
            refine ra1 (i := 14) [15] (h := ?_)
            refine r_buildP [v1, v2, v3, vb d.off] (parts := [(0, .tmp 6), (1, .tmp 10), (2, .tmp 14), (3, .tmp 16)]) (by exact rfl) (by rw [built_disk h1 h2 h3]) (by exact rfl) ?_
            refine sl_nil ?_
            refine sp_nx (k := ?_)
            refine ra1 (i := 15) [] (h := ?_)
            refine r_store_all (cs := [.slice none 0 0, .slice none 0 0, .slice none 0 0, vb false]) (vs := [v1, v2, v3, vb d.off]) (by exact tz rfl) (by exact rfl) (by exact rfl) (by iterate 24 (first | exact .hd | apply Upd.tl | skip)) rfl rfl (by rw [List.all_cons, g1, List.all_cons, g2, List.all_cons, g3]; rfl) rfl ?_
            refine sl_nil ?_
            refine sp_nx (k := ?_)
            refine ra_done ?_
            exact sp_cutE ⟨(v1, v2, v3), ⟨h1, g1⟩, ⟨h2, g2⟩, ⟨h3, g3⟩⟩ (by repeat' (first | trivial | exact rfl | apply And.intro)) (by repeat' (first | trivial | exact .head _ | apply And.intro | apply List.Mem.tail)) (by simp only [Nat.zero_add])
          · 
            refine r_lit (vs := []) (xs := []) (cells := []) (by exact tl rfl) (by exact z3) rfl rfl (by simp) (by simp) (by simp) (by exact rfl) (by exact rfl) (by exact rfl) fun l8 => ?_
            refine sl_nil ?_
            refine sp_nx (k := ?_)
            refine ra1 (i := 7) [11, 14, 15] (h := ?_)
            refine o_pull 2 rfl ?_
            refine r_append (n := 0) (xs := []) (mm := d.cache.xs.length) (news := wrsV d.cache.xs) (by exact tl rfl) (by exact z147) (by kernel_rfl) rfl (by exact rfl) (by exact rfl) (by iterate 24 (first | exact .head _ | apply List.Mem.tail | skip)) hcl (wrsV_one _) (by omega) (by omega) (by exact rfl) fun v2 h2 g2 => ?_
            dsimp only [pull, push, two, List.drop, List.take, List.cons_append, List.nil_append]
            refine sl_nil ?_
            refine sp_nx (k := ?_)
            refine ra1 (i := 11) [14, 15] (h := ?_)
            refine o_pull 1 rfl ?_
            refine r_append (n := 0) (xs := []) (mm := d.bad.xs.length) (news := isV d.bad.xs) (by exact tl rfl) (by exact z3) (by kernel_rfl) rfl (by exact rfl) (by exact rfl) (by iterate 24 (first | exact .head _ | apply List.Mem.tail | skip)) (by rw [hbl, Nat.mul_one]) (isV_one _) (by omega) (by omega) (by exact rfl) fun v3 h3 g3 => ?_
            dsimp only [pull, push, two, List.drop, List.take, List.cons_append, List.nil_append]
            refine sl_nil ?_
            refine sp_nx (k := ?_)
            refine ra1 (i := 14) [15] (h := ?_)
            refine r_buildP [v1, v2, v3, vb d.off] (parts := [(0, .tmp 6), (1, .tmp 10), (2, .tmp 14), (3, .tmp 16)]) (by exact rfl) (by rw [built_disk h1 h2 h3]) (by exact rfl) ?_
            refine sl_nil ?_
            refine sp_nx (k := ?_)
            refine ra1 (i := 15) [] (h := ?_)
            refine r_store_all (cs := [.slice none 0 0, .slice none 0 0, .slice none 0 0, vb false]) (vs := [v1, v2, v3, vb d.off]) (by exact tz rfl) (by exact rfl) (by exact rfl) (by iterate 24 (first | exact .hd | apply Upd.tl | skip)) rfl rfl (by rw [List.all_cons, g1, List.all_cons, g2, List.all_cons, g3]; rfl) rfl ?_
            refine sl_nil ?_
            refine sp_nx (k := ?_)
            refine ra_done ?_
            exact sp_cutE ⟨(v1, v2, v3), ⟨h1, g1⟩, ⟨h2, g2⟩, ⟨h3, g3⟩⟩ (by repeat' (first | trivial | exact rfl | apply And.intro)) (by repeat' (first | trivial | exact .head _ | apply And.intro | apply List.Mem.tail)) (by simp only [Nat.zero_add])
        · 
          refine r_lit (vs := []) (xs := []) (cells := []) (by exact tl rfl) (by exact z3) rfl rfl (by simp) (by simp) (by simp) (by exact rfl) (by exact rfl) (by exact rfl) fun l8 => ?_
          refine sl_nil ?_
          refine sp_nx (k := ?_)
          refine ra1 (i := 3) [7, 11, 14, 15] (h := ?_)
          refine o_pull 2 rfl ?_
          refine r_append (n := 0) (xs := []) (mm := d.pages.xs.length) (news := pgsV d.pages.xs) (by exact tl rfl) (by exact z37) (by kernel_rfl) rfl (by exact rfl) (by exact rfl) (by iterate 24 (first | exact .head _ | apply List.Mem.tail | skip)) hpl (pgsV_one _) (by omega) (by omega) (by exact rfl) fun v1 h1 g1 => ?_
          dsimp only [pull, push, two, List.drop, List.take, List.cons_append, List.nil_append]
          refine sl_nil ?_
          refine sp_nx (k := ?_)
          refine ra1 (i := 7) [11, 14, 15] (h := ?_)
          refine o_pull 2 rfl ?_
          refine r_append (n := 0) (xs := []) (mm := d.cache.xs.length) (news := wrsV d.cache.xs) (by exact tl rfl) (by exact z147) (by kernel_rfl) rfl (by exact rfl) (by exact rfl) (by iterate 24 (first | exact .head _ | apply List.Mem.tail | skip)) hcl (wrsV_one _) (by omega) (by omega) (by exact rfl) fun v2 h2 g2 => ?_
          dsimp only [pull, push, two, List.drop, List.take, List.cons_append, List.nil_append]
          refine sl_nil ?_
          refine sp_nx (k := ?_)
          refine ra1 (i := 11) [14, 15] (h := ?_)
          refine o_pull 2 rfl ?_
          refine r_append (n := 0) (xs := []) (mm := d.bad.xs.length) (news := isV d.bad.xs) (by exact tl rfl) (by exact z3) (by kernel_rfl) rfl (by exact rfl) (by exact rfl) (by iterate 24 (first | exact .head _ | apply List.Mem.tail | skip)) (by rw [hbl, Nat.mul_one]) (isV_one _) (by omega) (by omega) (by exact rfl) fun v3 h3 g3 => ?_
          dsimp only [pull, push, two, List.drop, List.take, List.cons_append, List.nil_append]
          refine sl_nil ?_
          refine sp_nx (k := ?_)
          refine ra1 (i := 14) [15] (h := ?_)
          refine r_buildP [v1, v2, v3, vb d.off] (parts := [(0, .tmp 6), (1, .tmp 10), (2, .tmp 14), (3, .tmp 16)]) (by exact rfl) (by rw [built_disk h1 h2 h3]) (by exact rfl) ?_
          refine sl_nil ?_
          refine sp_nx (k := ?_)
          refine ra1 (i := 15) [] (h := ?_)
          refine r_store_all (cs := [.slice none 0 0, .slice none 0 0, .slice none 0 0, vb false]) (vs := [v1, v2, v3, vb d.off]) (by exact tz rfl) (by exact rfl) (by exact rfl) (by iterate 24 (first | exact .hd | apply Upd.tl | skip)) rfl rfl (by rw [List.all_cons, g1, List.all_cons, g2, List.all_cons, g3]; rfl) rfl ?_
          refine sl_nil ?_
          refine sp_nx (k := ?_)
          refine ra_done ?_
          exact sp_cutE ⟨(v1, v2, v3), ⟨h1, g1⟩, ⟨h2, g2⟩, ⟨h3, g3⟩⟩ (by repeat' (first | trivial | exact rfl | apply And.intro)) (by repeat' (first | trivial | exact .head _ | apply And.intro | apply List.Mem.tail)) (by simp only [Nat.zero_add])
      · 
        refine r_lit (vs := []) (xs := []) (cells := []) (by exact tl rfl) (by exact z3) rfl rfl (by simp) (by simp) (by simp) (by exact rfl) (by exact rfl) (by exact rfl) fun l8 => ?_
        refine sl_nil ?_
        refine sp_nx (k := ?_)
        refine ra2 (i := 3) (j := 4) [4, 7, 11, 14, 15] [3, 7, 11, 14, 15] (by kernel_rfl) rfl rfl rfl rfl ?_ ?_
        · 
          refine o_pull 1 rfl ?_
          refine r_append (n := 0) (xs := []) (mm := d.pages.xs.length) (news := pgsV d.pages.xs) (by exact tl rfl) (by exact z37) (by kernel_rfl) rfl (by exact rfl) (by exact rfl) (by iterate 24 (first | exact .head _ | apply List.Mem.tail | skip)) hpl (pgsV_one _) (by omega) (by omega) (by exact rfl) fun v1 h1 g1 => ?_
          dsimp only [pull, push, two, List.drop, List.take, List.cons_append, List.nil_append]
          refine sl_nil ?_
          refine sp_nx (k := ?_)
          refine ra1 (i := 4) [7, 11, 14, 15] (h := ?_)
          refine r_lit (vs := []) (xs := []) (cells := []) (by exact tl rfl) (by exact z147) rfl rfl (by simp) (by simp) (by simp) (by exact rfl) (by exact rfl) (by exact rfl) fun l4 => ?_
          refine sl_nil ?_
          refine sp_nx (k := ?_)
          refine ra1 (i := 7) [11, 14, 15] (h := ?_)
          refine r_append (n := 0) (xs := []) (mm := d.cache.xs.length) (news := wrsV d.cache.xs) (by exact tl rfl) (by exact z147) (by kernel_rfl) rfl (by exact rfl) (by exact rfl) (by iterate 24 (first | exact .head _ | apply List.Mem.tail | skip)) hcl (wrsV_one _) (by omega) (by omega) (by exact rfl) fun v2 h2 g2 => ?_
          dsimp only [pull, push, two, List.drop, List.take, List.cons_append, List.nil_append]
          refine sl_nil ?_
          refine sp_nx (k := ?_)
          refine ra1 (i := 11) [14, 15] (h := ?_)
          refine o_pull 2 rfl ?_
          refine r_append (n := 0) (xs := []) (mm := d.bad.xs.length) (news := isV d.bad.xs) (by exact tl rfl) (by exact z3) (by kernel_rfl) rfl (by exact rfl) (by exact rfl) (by iterate 24 (first | exact .head _ | apply List.Mem.tail | skip)) (by rw [hbl, Nat.mul_one]) (isV_one _) (by omega) (by omega) (by exact rfl) fun v3 h3 g3 => ?_
          dsimp only [pull, push, two, List.drop, List.take, List.cons_append, List.nil_append]
          refine sl_nil ?_
          refine sp_nx (k := ?_)
          refine ra1 (i := 14) [15] (h := ?_)
          refine r_buildP [v1, v2, v3, vb d.off] (parts := [(0, .tmp 6), (1, .tmp 10), (2, .tmp 14), (3, .tmp 16)]) (by exact rfl) (by rw [built_disk h1 h2 h3]) (by exact rfl) ?_
          refine sl_nil ?_
          refine sp_nx (k := ?_)
          refine ra1 (i := 15) [] (h := ?_)
          refine r_store_all (cs := [.slice none 0 0, .slice none 0 0, .slice none 0 0, vb false]) (vs := [v1, v2, v3, vb d.off]) (by exact tz rfl) (by exact rfl) (by exact rfl) (by iterate 24 (first | exact .hd | apply Upd.tl | skip)) rfl rfl (by rw [List.all_cons, g1, List.all_cons, g2, List.all_cons, g3]; rfl) rfl ?_
          refine sl_nil ?_
          refine sp_nx (k := ?_)
          refine ra_done ?_
          exact sp_cutE ⟨(v1, v2, v3), ⟨h1, g1⟩, ⟨h2, g2⟩, ⟨h3, g3⟩⟩ (by repeat' (first | trivial | exact rfl | apply And.intro)) (by repeat' (first | trivial | exact .head _ | apply And.intro | apply List.Mem.tail)) (by simp only [Nat.zero_add])
        · 
          refine r_lit (vs := []) (xs := []) (cells := []) (by exact tl rfl) (by exact z147) rfl rfl (by simp) (by simp) (by simp) (by exact rfl) (by exact rfl) (by exact rfl) fun l4 => ?_
          refine sl_nil ?_
          refine sp_nx (k := ?_)
          refine ra1 (i := 3) [7, 11, 14, 15] (h := ?_)
          refine o_pull 2 rfl ?_
          refine r_append (n := 0) (xs := []) (mm := d.pages.xs.length) (news := pgsV d.pages.xs) (by exact tl rfl) (by exact z37) (by kernel_rfl) rfl (by exact rfl) (by exact rfl) (by iterate 24 (first | exact .head _ | apply List.Mem.tail | skip)) hpl (pgsV_one _) (by omega) (by omega) (by exact rfl) fun v1 h1 g1 => ?_
          dsimp only [pull, push, two, List.drop, List.take, List.cons_append, List.nil_append]
          refine sl_nil ?_
          refine sp_nx (k := ?_)
          refine ra1 (i := 7) [11, 14, 15] (h := ?_)
          refine o_pull 1 rfl ?_
          refine r_append (n := 0) (xs := []) (mm := d.cache.xs.length) (news := wrsV d.cache.xs) (by exact tl rfl) (by exact z147) (by kernel_rfl) rfl (by exact rfl) (by exact rfl) (by iterate 24 (first | exact .head _ | apply List.Mem.tail | skip)) hcl (wrsV_one _) (by omega) (by omega) (by exact rfl) fun v2 h2 g2 => ?_
          dsimp only [pull, push, two, List.drop, List.take, List.cons_append, List.nil_append]
          refine sl_nil ?_
          refine sp_nx (k := ?_)
          refine ra1 (i := 11) [14, 15] (h := ?_)
          refine o_pull 2 rfl ?_
          refine r_append (n := 0) (xs := []) (mm := d.bad.xs.length) (news := isV d.bad.xs) (by exact tl rfl) (by exact z3) (by kernel_rfl) rfl (by exact rfl) (by exact rfl) (by iterate 24 (first | exact .head _ | apply List.Mem.tail | skip)) (by rw [hbl, Nat.mul_one]) (isV_one _) (by omega) (by omega) (by exact rfl) fun v3 h3 g3 => ?_
          dsimp only [pull, push, two, List.drop, List.take, List.cons_append, List.nil_append]
          refine sl_nil ?_
          refine sp_nx (k := ?_)
          refine ra1 (i := 14) [15] (h := ?_)
          refine r_buildP [v1, v2, v3, vb d.off] (parts := [(0, .tmp 6), (1, .tmp 10), (2, .tmp 14), (3, .tmp 16)]) (by exact rfl) (by rw [built_disk h1 h2 h3]) (by exact rfl) ?_
          refine sl_nil ?_
          refine sp_nx (k := ?_)
          refine ra1 (i := 15) [] (h := ?_)
          refine r_store_all (cs := [.slice none 0 0, .slice none 0 0, .slice none 0 0, vb false]) (vs := [v1, v2, v3, vb d.off]) (by exact tz rfl) (by exact rfl) (by exact rfl) (by iterate 24 (first | exact .hd | apply Upd.tl | skip)) rfl rfl (by rw [List.all_cons, g1, List.all_cons, g2, List.all_cons, g3]; rfl) rfl ?_
          refine sl_nil ?_
          refine sp_nx (k := ?_)
          refine ra_done ?_
          exact sp_cutE ⟨(v1, v2, v3), ⟨h1, g1⟩, ⟨h2, g2⟩, ⟨h3, g3⟩⟩ (by repeat' (first | trivial | exact rfl | apply And.intro)) (by repeat' (first | trivial | exact .head _ | apply And.intro | apply List.Mem.tail)) (by simp only [Nat.zero_add])
    · 
      refine r_lit (vs := []) (xs := []) (cells := []) (by exact tl rfl) (by exact z147) rfl rfl (by simp) (by simp) (by simp) (by exact rfl) (by exact rfl) (by exact rfl) fun l4 => ?_
      refine sl_nil ?_
      refine sp_nx (k := ?_)
      refine ra2 (i := 0) (j := 8) [3, 7, 8, 11, 14, 15] [0, 3, 7, 11, 14, 15] (by kernel_rfl) rfl rfl rfl rfl ?_ ?_
      · 
        refine r_lit (vs := []) (xs := []) (cells := []) (by exact tl rfl) (by exact z37) rfl rfl (by simp) (by simp) (by simp) (by exact rfl) (by exact rfl) (by exact rfl) fun l0 => ?_
        refine sl_nil ?_
        refine sp_nx (k := ?_)
        refine ra2 (i := 3) (j := 8) [7, 8, 11, 14, 15] [3, 7, 11, 14, 15] (by kernel_rfl) rfl rfl rfl rfl ?_ ?_
        · 
          refine r_append (n := 0) (xs := []) (mm := d.pages.xs.length) (news := pgsV d.pages.xs) (by exact tl rfl) (by exact z37) (by kernel_rfl) rfl (by exact rfl) (by exact rfl) (by iterate 24 (first | exact .head _ | apply List.Mem.tail | skip)) hpl (pgsV_one _) (by omega) (by omega) (by exact rfl) fun v1 h1 g1 => ?_
          dsimp only [pull, push, two, List.drop, List.take, List.cons_append, List.nil_append]
          refine sl_nil ?_
          refine sp_nx (k := ?_)
          refine ra2 (i := 7) (j := 8) [8, 11, 14, 15] [7, 11, 14, 15] (by kernel_rfl) rfl rfl rfl rfl ?_ ?_
          · 
            refine o_pull 1 rfl ?_
            refine r_append (n := 0) (xs := []) (mm := d.cache.xs.length) (news := wrsV d.cache.xs) (by exact tl rfl) (by exact z147) (by kernel_rfl) rfl (by exact rfl) (by exact rfl) (by iterate 24 (first | exact .head _ | apply List.Mem.tail | skip)) hcl (wrsV_one _) (by omega) (by omega) (by exact rfl) fun v2 h2 g2 => ?_
            dsimp only [pull, push, two, List.drop, List.take, List.cons_append, List.nil_append]
            refine sl_nil ?_
            refine sp_nx (k := ?_)
            refine ra1 (i := 8) [11, 14, 15] (h := ?_)
            refine r_lit (vs := []) (xs := []) (cells := []) (by exact tl rfl) (by exact z3) rfl rfl (by simp) (by simp) (by simp) (by exact rfl) (by exact rfl) (by exact rfl) fun l8 => ?_
            refine sl_nil ?_
            refine sp_nx (k := ?_)
            refine ra1 (i := 11) [14, 15] (h := ?_)
            refine r_append (n := 0) (xs := []) (mm := d.bad.xs.length) (news := isV d.bad.xs) (by exact tl rfl) (by exact z3) (by kernel_rfl) rfl (by exact rfl) (by exact rfl) (by iterate 24 (first | exact .head _ | apply List.Mem.tail | skip)) (by rw [hbl, Nat.mul_one]) (isV_one _) (by omega) (by omega) (by exact rfl) fun v3 h3 g3 => ?_
            dsimp only [pull, push, two, List.drop, List.take, List.cons_append, List.nil_append]
            refine sl_nil ?_
            refine sp_nx (k := ?_)
            refine ra1 (i := 14) [15] (h := ?_)
            refine r_buildP [v1, v2, v3, vb d.off] (parts := [(0, .tmp 6), (1, .tmp 10), (2, .tmp 14), (3, .tmp 16)]) (by exact rfl) (by rw [built_disk h1 h2 h3]) (by exact rfl) ?_
            refine sl_nil ?_
            refine sp_nx (k := ?_)
            refine ra1 (i := 15) [] (h := ?_)
            refine r_store_all (cs := [.slice none 0 0, .slice none 0 0, .slice none 0 0, vb false]) (vs := [v1, v2, v3, vb d.off]) (by exact tz rfl) (by exact rfl) (by exact rfl) (by iterate 24 (first | exact .hd | apply Upd.tl | skip)) rfl rfl (by rw [List.all_cons, g1, List.all_cons, g2, List.all_cons, g3]; rfl) rfl ?_
            refine sl_nil ?_
            refine sp_nx (k := ?_)
            refine ra_done ?_
            exact sp_cutE ⟨(v1, v2, v3), ⟨h1, g1⟩, ⟨h2, g2⟩, ⟨h3, g3⟩⟩ (by repeat' (first | trivial | exact rfl | apply And.intro)) (by repeat' (first | trivial | exact .head _ | apply And.intro | apply List.Mem.tail)) (by simp only [Nat.zero_add])
          · 
            refine r_lit (vs := []) (xs := []) (cells := []) (by exact tl rfl) (by exact z3) rfl rfl (by simp) (by simp) (by simp) (by exact rfl) (by exact rfl) (by exact rfl) fun l8 => ?_
            refine sl_nil ?_
            refine sp_nx (k := ?_)
            refine ra1 (i := 7) [11, 14, 15] (h := ?_)
            refine o_pull 2 rfl ?_
            refine r_append (n := 0) (xs := []) (mm := d.cache.xs.length) (news := wrsV d.cache.xs) (by exact tl rfl) (by exact z147) (by kernel_rfl) rfl (by exact rfl) (by exact rfl) (by iterate 24 (first | exact .head _ | apply List.Mem.tail | skip)) hcl (wrsV_one _) (by omega) (by omega) (by exact rfl) fun v2 h2 g2 => ?_
            dsimp only [pull, push, two, List.drop, List.take, List.cons_append, List.nil_append]
            refine sl_nil ?_
            refine sp_nx (k := ?_)
            refine ra1 (i := 11) [14, 15] (h := ?_)
            refine o_pull 1 rfl ?_
            refine r_append (n := 0) (xs := []) (mm := d.bad.xs.length) (news := isV d.bad.xs) (by exact tl rfl) (by exact z3) (by kernel_rfl) rfl (by exact rfl) (by exact rfl) (by iterate 24 (first | exact .head _ | apply List.Mem.tail | skip)) (by rw [hbl, Nat.mul_one]) (isV_one _) (by omega) (by omega) (by exact rfl) fun v3 h3 g3 => ?_
            dsimp only [pull, push, two, List.drop, List.take, List.cons_append, List.nil_append]
            refine sl_nil ?_
            refine sp_nx (k := ?_)
            refine ra1 (i := 14) [15] (h := ?_)
            refine r_buildP [v1, v2, v3, vb d.off] (parts := [(0, .tmp 6), (1, .tmp 10), (2, .tmp 14), (3, .tmp 16)]) (by exact rfl) (by rw [built_disk h1 h2 h3]) (by exact rfl) ?_
            refine sl_nil ?_
            refine sp_nx (k := ?_)
            refine ra1 (i := 15) [] (h := ?_)
            refine r_store_all (cs := [.slice none 0 0, .slice none 0 0, .slice none 0 0, vb false]) (vs := [v1, v2, v3, vb d.off]) (by exact tz rfl) (by exact rfl) (by exact rfl) (by iterate 24 (first | exact .hd | apply Upd.tl | skip)) rfl rfl (by rw [List.all_cons, g1, List.all_cons, g2, List.all_cons, g3]; rfl) rfl ?_
            refine sl_nil ?_
            refine sp_nx (k := ?_)
            refine ra_done ?_
            exact sp_cutE ⟨(v1, v2, v3), ⟨h1, g1⟩, ⟨h2, g2⟩, ⟨h3, g3⟩⟩ (by repeat' (first | trivial | exact rfl | apply And.intro)) (by repeat' (first | trivial | exact .head _ | apply And.intro | apply List.Mem.tail)) (by simp only [Nat.zero_add])
        · 
          refine r_lit (vs := []) (xs := []) (cells := []) (by exact tl rfl) (by exact z3) rfl rfl (by simp) (by simp) (by simp) (by exact rfl) (by exact rfl) (by exact rfl) fun l8 => ?_
          refine sl_nil ?_
          refine sp_nx (k := ?_)
          refine ra1 (i := 3) [7, 11, 14, 15] (h := ?_)
          refine o_pull 1 rfl ?_
          refine r_append (n := 0) (xs := []) (mm := d.pages.xs.length) (news := pgsV d.pages.xs) (by exact tl rfl) (by exact z37) (by kernel_rfl) rfl (by exact rfl) (by exact rfl) (by iterate 24 (first | exact .head _ | apply List.Mem.tail | skip)) hpl (pgsV_one _) (by omega) (by omega) (by exact rfl) fun v1 h1 g1 => ?_
          dsimp only [pull, push, two, List.drop, List.take, List.cons_append, List.nil_append]
          refine sl_nil ?_
          refine sp_nx (k := ?_)
          refine ra1 (i := 7) [11, 14, 15] (h := ?_)
          refine o_pull 2 rfl ?_
          refine r_append (n := 0) (xs := []) (mm := d.cache.xs.length) (news := wrsV d.cache.xs) (by exact tl rfl) (by exact z147) (by kernel_rfl) rfl (by exact rfl) (by exact rfl) (by iterate 24 (first | exact .head _ | apply List.Mem.tail | skip)) hcl (wrsV_one _) (by omega) (by omega) (by exact rfl) fun v2 h2 g2 => ?_
          dsimp only [pull, push, two, List.drop, List.take, List.cons_append, List.nil_append]
          refine sl_nil ?_
          refine sp_nx (k := ?_)
          refine ra1 (i := 11) [14, 15] (h := ?_)
          refine o_pull 2 rfl ?_
          refine r_append (n := 0) (xs := []) (mm := d.bad.xs.length) (news := isV d.bad.xs) (by exact tl rfl) (by exact z3) (by kernel_rfl) rfl (by exact rfl) (by exact rfl) (by iterate 24 (first | exact .head _ | apply List.Mem.tail | skip)) (by rw [hbl, Nat.mul_one]) (isV_one _) (by omega) (by omega) (by exact rfl) fun v3 h3 g3 => ?_
          dsimp only [pull, push, two, List.drop, List.take, List.cons_append, List.nil_append]
          refine sl_nil ?_
          refine sp_nx (k := ?_)
          refine ra1 (i := 14) [15] (h := ?_)
          refine r_buildP [v1, v2, v3, vb d.off] (parts := [(0, .tmp 6), (1, .tmp 10), (2, .tmp 14), (3, .tmp 16)]) (by exact rfl) (by rw [built_disk h1 h2 h3]) (by exact rfl) ?_
          refine sl_nil ?_
          refine sp_nx (k := ?_)
          refine ra1 (i := 15) [] (h := ?_)
          refine r_store_all (cs := [.slice none 0 0, .slice none 0 0, .slice none 0 0, vb false]) (vs := [v1, v2, v3, vb d.off]) (by exact tz rfl) (by exact rfl) (by exact rfl) (by iterate 24 (first | exact .hd | apply Upd.tl | skip)) rfl rfl (by rw [List.all_cons, g1, List.all_cons, g2, List.all_cons, g3]; rfl) rfl ?_
          refine sl_nil ?_
          refine sp_nx (k := ?_)
          refine ra_done ?_
          exact sp_cutE ⟨(v1, v2, v3), ⟨h1, g1⟩, ⟨h2, g2⟩, ⟨h3, g3⟩⟩ (by repeat' (first | trivial | exact rfl | apply And.intro)) (by repeat' (first | trivial | exact .head _ | apply And.intro | apply List.Mem.tail)) (by simp only [Nat.zero_add])
      · 
        refine r_lit (vs := []) (xs := []) (cells := []) (by exact tl rfl) (by exact z3) rfl rfl (by simp) (by simp) (by simp) (by exact rfl) (by exact rfl) (by exact rfl) fun l8 => ?_
        refine sl_nil ?_
        refine sp_nx (k := ?_)
        refine ra1 (i := 0) [3, 7, 11, 14, 15] (h := ?_)
        refine r_lit (vs := []) (xs := []) (cells := []) (by exact tl rfl) (by exact z37) rfl rfl (by simp) (by simp) (by simp) (by exact rfl) (by exact rfl) (by exact rfl) fun l0 => ?_
        refine sl_nil ?_
        refine sp_nx (k := ?_)
        refine ra1 (i := 3) [7, 11, 14, 15] (h := ?_)
        refine r_append (n := 0) (xs := []) (mm := d.pages.xs.length) (news := pgsV d.pages.xs) (by exact tl rfl) (by exact z37) (by kernel_rfl) rfl (by exact rfl) (by exact rfl) (by iterate 24 (first | exact .head _ | apply List.Mem.tail | skip)) hpl (pgsV_one _) (by omega) (by omega) (by exact rfl) fun v1 h1 g1 => ?_
        dsimp only [pull, push, two, List.drop, List.take, List.cons_append, List.nil_append]
        refine sl_nil ?_
        refine sp_nx (k := ?_)
        refine ra1 (i := 7) [11, 14, 15] (h := ?_)
        refine o_pull 2 rfl ?_
        refine r_append (n := 0) (xs := []) (mm := d.cache.xs.length) (news := wrsV d.cache.xs) (by exact tl rfl) (by exact z147) (by kernel_rfl) rfl (by exact rfl) (by exact rfl) (by iterate 24 (first | exact .head _ | apply List.Mem.tail | skip)) hcl (wrsV_one _) (by omega) (by omega) (by exact rfl) fun v2 h2 g2 => ?_
        dsimp only [pull, push, two, List.drop, List.take, List.cons_append, List.nil_append]
        refine sl_nil ?_
        refine sp_nx (k := ?_)
        refine ra1 (i := 11) [14, 15] (h := ?_)
        refine o_pull 2 rfl ?_
        refine r_append (n := 0) (xs := []) (mm := d.bad.xs.length) (news := isV d.bad.xs) (by exact tl rfl) (by exact z3) (by kernel_rfl) rfl (by exact rfl) (by exact rfl) (by iterate 24 (first | exact .head _ | apply List.Mem.tail | skip)) (by rw [hbl, Nat.mul_one]) (isV_one _) (by omega) (by omega) (by exact rfl) fun v3 h3 g3 => ?_
        dsimp only [pull, push, two, List.drop, List.take, List.cons_append, List.nil_append]
        refine sl_nil ?_
        refine sp_nx (k := ?_)
        refine ra1 (i := 14) [15] (h := ?_)
        refine r_buildP [v1, v2, v3, vb d.off] (parts := [(0, .tmp 6), (1, .tmp 10), (2, .tmp 14), (3, .tmp 16)]) (by exact rfl) (by rw [built_disk h1 h2 h3]) (by exact rfl) ?_
        refine sl_nil ?_
        refine sp_nx (k := ?_)
        refine ra1 (i := 15) [] (h := ?_)
        refine r_store_all (cs := [.slice none 0 0, .slice none 0 0, .slice none 0 0, vb false]) (vs := [v1, v2, v3, vb d.off]) (by exact tz rfl) (by exact rfl) (by exact rfl) (by iterate 24 (first | exact .hd | apply Upd.tl | skip)) rfl rfl (by rw [List.all_cons, g1, List.all_cons, g2, List.all_cons, g3]; rfl) rfl ?_
        refine sl_nil ?_
        refine sp_nx (k := ?_)
        refine ra_done ?_
        exact sp_cutE ⟨(v1, v2, v3), ⟨h1, g1⟩, ⟨h2, g2⟩, ⟨h3, g3⟩⟩ (by repeat' (first | trivial | exact rfl | apply And.intro)) (by repeat' (first | trivial | exact .head _ | apply And.intro | apply List.Mem.tail)) (by simp only [Nat.zero_add])
    · 
      refine r_lit (vs := []) (xs := []) (cells := []) (by exact tl rfl) (by exact z3) rfl rfl (by simp) (by simp) (by simp) (by exact rfl) (by exact rfl) (by exact rfl) fun l8 => ?_
      refine sl_nil ?_
      refine sp_nx (k := ?_)
      refine ra2 (i := 0) (j := 4) [3, 4, 7, 11, 14, 15] [0, 3, 7, 11, 14, 15] (by kernel_rfl) rfl rfl rfl rfl ?_ ?_
      · 
        refine r_lit (vs := []) (xs := []) (cells := []) (by exact tl rfl) (by exact z37) rfl rfl (by simp) (by simp) (by simp) (by exact rfl) (by exact rfl) (by exact rfl) fun l0 => ?_
        refine sl_nil ?_
        refine sp_nx (k := ?_)
        refine ra2 (i := 3) (j := 4) [4, 7, 11, 14, 15] [3, 7, 11, 14, 15] (by kernel_rfl) rfl rfl rfl rfl ?_ ?_
        · 
          refine r_append (n := 0) (xs := []) (mm := d.pages.xs.length) (news := pgsV d.pages.xs) (by exact tl rfl) (by exact z37) (by kernel_rfl) rfl (by exact rfl) (by exact rfl) (by iterate 24 (first | exact .head _ | apply List.Mem.tail | skip)) hpl (pgsV_one _) (by omega) (by omega) (by exact rfl) fun v1 h1 g1 => ?_
          dsimp only [pull, push, two, List.drop, List.take, List.cons_append, List.nil_append]
          refine sl_nil ?_
          refine sp_nx (k := ?_)
          refine ra1 (i := 4) [7, 11, 14, 15] (h := ?_)
          refine r_lit (vs := []) (xs := []) (cells := []) (by exact tl rfl) (by exact z147) rfl rfl (by simp) (by simp) (by simp) (by exact rfl) (by exact rfl) (by exact rfl) fun l4 => ?_
          refine sl_nil ?_
          refine sp_nx (k := ?_)
          refine ra1 (i := 7) [11, 14, 15] (h := ?_)
          refine r_append (n := 0) (xs := []) (mm := d.cache.xs.length) (news := wrsV d.cache.xs) (by exact tl rfl) (by exact z147) (by kernel_rfl) rfl (by exact rfl) (by exact rfl) (by iterate 24 (first | exact .head _ | apply List.Mem.tail | skip)) hcl (wrsV_one _) (by omega) (by omega) (by exact rfl) fun v2 h2 g2 => ?_
          dsimp only [pull, push, two, List.drop, List.take, List.cons_append, List.nil_append]
          refine sl_nil ?_
          refine sp_nx (k := ?_)
          refine ra1 (i := 11) [14, 15] (h := ?_)
          refine o_pull 2 rfl ?_
          refine r_append (n := 0) (xs := []) (mm := d.bad.xs.length) (news := isV d.bad.xs) (by exact tl rfl) (by exact z3) (by kernel_rfl) rfl (by exact rfl) (by exact rfl) (by iterate 24 (first | exact .head _ | apply List.Mem.tail | skip)) (by rw [hbl, Nat.mul_one]) (isV_one _) (by omega) (by omega) (by exact rfl) fun v3 h3 g3 => ?_
          dsimp only [pull, push, two, List.drop, List.take, List.cons_append, List.nil_append]
          refine sl_nil ?_
          refine sp_nx (k := ?_)
          refine ra1 (i := 14) [15] (h := ?_)
          refine r_buildP [v1, v2, v3, vb d.off] (parts := [(0, .tmp 6), (1, .tmp 10), (2, .tmp 14), (3, .tmp 16)]) (by exact rfl) (by rw [built_disk h1 h2 h3]) (by exact rfl) ?_
          refine sl_nil ?_
          refine sp_nx (k := ?_)
          refine ra1 (i := 15) [] (h := ?_)
          refine r_store_all (cs := [.slice none 0 0, .slice none 0 0, .slice none 0 0, vb false]) (vs := [v1, v2, v3, vb d.off]) (by exact tz rfl) (by exact rfl) (by exact rfl) (by iterate 24 (first | exact .hd | apply Upd.tl | skip)) rfl rfl (by rw [List.all_cons, g1, List.all_cons, g2, List.all_cons, g3]; rfl) rfl ?_
          refine sl_nil ?_
          refine sp_nx (k := ?_)
          refine ra_done ?_
          exact sp_cutE ⟨(v1, v2, v3), ⟨h1, g1⟩, ⟨h2, g2⟩, ⟨h3, g3⟩⟩ (by repeat' (first | trivial | exact rfl | apply And.intro)) (by repeat' (first | trivial | exact .head _ | apply And.intro | apply List.Mem.tail)) (by simp only [Nat.zero_add])
        · 
          refine r_lit (vs := []) (xs := []) (cells := []) (by exact tl rfl) (by exact z147) rfl rfl (by simp) (by simp) (by simp) (by exact rfl) (by exact rfl) (by exact rfl) fun l4 => ?_
          refine sl_nil ?_
          refine sp_nx (k := ?_)
          refine ra1 (i := 3) [7, 11, 14, 15] (h := ?_)
          refine o_pull 1 rfl ?_
          refine r_append (n := 0) (xs := []) (mm := d.pages.xs.length) (news := pgsV d.pages.xs) (by exact tl rfl) (by exact z37) (by kernel_rfl) rfl (by exact rfl) (by exact rfl) (by iterate 24 (first | exact .head _ | apply List.Mem.tail | skip)) hpl (pgsV_one _) (by omega) (by omega) (by exact rfl) fun v1 h1 g1 => ?_
          dsimp only [pull, push, two, List.drop, List.take, List.cons_append, List.nil_append]
          refine sl_nil ?_
          refine sp_nx (k := ?_)
          refine ra1 (i := 7) [11, 14, 15] (h := ?_)
          refine o_pull 1 rfl ?_
          refine r_append (n := 0) (xs := []) (mm := d.cache.xs.length) (news := wrsV d.cache.xs) (by exact tl rfl) (by exact z147) (by kernel_rfl) rfl (by exact rfl) (by exact rfl) (by iterate 24 (first | exact .head _ | apply List.Mem.tail | skip)) hcl (wrsV_one _) (by omega) (by omega) (by exact rfl) fun v2 h2 g2 => ?_
          dsimp only [pull, push, two, List.drop, List.take, List.cons_append, List.nil_append]
          refine sl_nil ?_
          refine sp_nx (k := ?_)
          refine ra1 (i := 11) [14, 15] (h := ?_)
          refine o_pull 2 rfl ?_
          refine r_append (n := 0) (xs := []) (mm := d.bad.xs.length) (news := isV d.bad.xs) (by exact tl rfl) (by exact z3) (by kernel_rfl) rfl (by exact rfl) (by exact rfl) (by iterate 24 (first | exact .head _ | apply List.Mem.tail | skip)) (by rw [hbl, Nat.mul_one]) (isV_one _) (by omega) (by omega) (by exact rfl) fun v3 h3 g3 => ?_
          dsimp only [pull, push, two, List.drop, List.take, List.cons_append, List.nil_append]
          refine sl_nil ?_
          refine sp_nx (k := ?_)
          refine ra1 (i := 14) [15] (h := ?_)
          refine r_buildP [v1, v2, v3, vb d.off] (parts := [(0, .tmp 6), (1, .tmp 10), (2, .tmp 14), (3, .tmp 16)]) (by exact rfl) (by rw [built_disk h1 h2 h3]) (by exact rfl) ?_
          refine sl_nil ?_
          refine sp_nx (k := ?_)
          refine ra1 (i := 15) [] (h := ?_)
          refine r_store_all (cs := [.slice none 0 0, .slice none 0 0, .slice none 0 0, vb false]) (vs := [v1, v2, v3, vb d.off]) (by exact tz rfl) (by exact rfl) (by exact rfl) (by iterate 24 (first | exact .hd | apply Upd.tl | skip)) rfl rfl (by rw [List.all_cons, g1, List.all_cons, g2, List.all_cons, g3]; rfl) rfl ?_
          refine sl_nil ?_
          refine sp_nx (k := ?_)
          refine ra_done ?_
          exact sp_cutE ⟨(v1, v2, v3), ⟨h1, g1⟩, ⟨h2, g2⟩, ⟨h3, g3⟩⟩ (by repeat' (first | trivial | exact rfl | apply And.intro)) (by repeat' (first | trivial | exact .head _ | apply And.intro | apply List.Mem.tail)) (by simp only [Nat.zero_add])
      · 
        refine r_lit (vs := []) (xs := []) (cells := []) (by exact tl rfl) (by exact z147) rfl rfl (by simp) (by simp) (by simp) (by exact rfl) (by exact rfl) (by exact rfl) fun l4 => ?_
        refine sl_nil ?_
        refine sp_nx (k := ?_)
        refine ra1 (i := 0) [3, 7, 11, 14, 15] (h := ?_)
        refine r_lit (vs := []) (xs := []) (cells := []) (by exact tl rfl) (by exact z37) rfl rfl (by simp) (by simp) (by simp) (by exact rfl) (by exact rfl) (by exact rfl) fun l0 => ?_
        refine sl_nil ?_
        refine sp_nx (k := ?_)
        refine ra1 (i := 3) [7, 11, 14, 15] (h := ?_)
        refine r_append (n := 0) (xs := []) (mm := d.pages.xs.length) (news := pgsV d.pages.xs) (by exact tl rfl) (by exact z37) (by kernel_rfl) rfl (by exact rfl) (by exact rfl) (by iterate 24 (first | exact .head _ | apply List.Mem.tail | skip)) hpl (pgsV_one _) (by omega) (by omega) (by exact rfl) fun v1 h1 g1 => ?_
        dsimp only [pull, push, two, List.drop, List.take, List.cons_append, List.nil_append]
        refine sl_nil ?_
        refine sp_nx (k := ?_)
        refine ra1 (i := 7) [11, 14, 15] (h := ?_)
        refine o_pull 1 rfl ?_
        refine r_append (n := 0) (xs := []) (mm := d.cache.xs.length) (news := wrsV d.cache.xs) (by exact tl rfl) (by exact z147) (by kernel_rfl) rfl (by exact rfl) (by exact rfl) (by iterate 24 (first | exact .head _ | apply List.Mem.tail | skip)) hcl (wrsV_one _) (by omega) (by omega) (by exact rfl) fun v2 h2 g2 => ?_
        dsimp only [pull, push, two, List.drop, List.take, List.cons_append, List.nil_append]
        refine sl_nil ?_
        refine sp_nx (k := ?_)
        refine ra1 (i := 11) [14, 15] (h := ?_)
        refine o_pull 2 rfl ?_
        refine r_append (n := 0) (xs := []) (mm := d.bad.xs.length) (news := isV d.bad.xs) (by exact tl rfl) (by exact z3) (by kernel_rfl) rfl (by exact rfl) (by exact rfl) (by iterate 24 (first | exact .head _ | apply List.Mem.tail | skip)) (by rw [hbl, Nat.mul_one]) (isV_one _) (by omega) (by omega) (by exact rfl) fun v3 h3 g3 => ?_
        dsimp only [pull, push, two, List.drop, List.take, List.cons_append, List.nil_append]
        refine sl_nil ?_
        refine sp_nx (k := ?_)
        refine ra1 (i := 14) [15] (h := ?_)
        refine r_buildP [v1, v2, v3, vb d.off] (parts := [(0, .tmp 6), (1, .tmp 10), (2, .tmp 14), (3, .tmp 16)]) (by exact rfl) (by rw [built_disk h1 h2 h3]) (by exact rfl) ?_
        refine sl_nil ?_
        refine sp_nx (k := ?_)
        refine ra1 (i := 15) [] (h := ?_)
        refine r_store_all (cs := [.slice none 0 0, .slice none 0 0, .slice none 0 0, vb false]) (vs := [v1, v2, v3, vb d.off]) (by exact tz rfl) (by exact rfl) (by exact rfl) (by iterate 24 (first | exact .hd | apply Upd.tl | skip)) rfl rfl (by rw [List.all_cons, g1, List.all_cons, g2, List.all_cons, g3]; rfl) rfl ?_
        refine sl_nil ?_
        refine sp_nx (k := ?_)
        refine ra_done ?_
        exact sp_cutE ⟨(v1, v2, v3), ⟨h1, g1⟩, ⟨h2, g2⟩, ⟨h3, g3⟩⟩ (by repeat' (first | trivial | exact rfl | apply And.intro)) (by repeat' (first | trivial | exact .head _ | apply And.intro | apply List.Mem.tail)) (by simp only [Nat.zero_add])
  obtain ⟨⟨v1, v2, v3⟩, ⟨h1, g1⟩, ⟨h2, g2⟩, ⟨h3, g3⟩⟩ := v
  dsimp only at h1 g1 h2 g2 h3 g3 ⊢
  refine sw_ret ?_
  refine sp_pull 1 rfl ?_
  refine sp_pull 2 rfl ?_
  refine sp_retv rfl rfl (.agg rfl (tz rfl) rfl (by iterate 24 (first | exact .head _ | apply List.Mem.tail | skip))) rfl rfl ⟨v1, v2, v3, ⟨h1, g1⟩, ⟨h2, g2⟩, ⟨h3, g3⟩, rfl, rfl, rfl⟩ (.cons_cons _ (.cons_cons _ (.cons_cons _ (List.nil_sublist _)))) rfl (by simp)
end Go.Proofs.YtjahiohlekdhoaaDoor

namespace Go.Proofs.YtjahiohlekdhoaaDoor
open Go
set_option maxHeartbeats 4000000
set_option maxRecDepth 4000
attribute [local irreducible] SW SL SP RA Then FQ IQ LoopQ RQ AQ NX CutQ Exit.noGoto

theorem c_r3may (G : Res) (d : DiskV) (hd : d.ok) (ho : d.off = false) (hb : d.bad.xs = []) : Ctr Tryd.prog G 115 [d.v] [] [d.rp, d.rc, d.rb] (ret1 (vb true)) := by
  have hn0 : 32 ≤ d.pages.xs.length := hd.f.n0
  have hn1 : d.pages.xs.length ≤ 64 := hd.f.n1
  have hc : d.cache.xs.length ≤ 1000 := hd.f.c
  have hwl : (wrsV d.cache.xs).length = d.cache.xs.length * 257 := wrsV_len hd.f
  refine Ctr.intro Tryd.func115 (by kernel_rfl) rfl Tryd.ntmps115 rfl rfl rfl fun w' X => ?_
  refine sw_seq ?_
  refine sw_region ?_
  refine r_box (cs := d.cs) (by exact rfl) rfl (by exact rfl) fun b1 => ?_
  refine r_assign (k := ?_)
  refine sl_nil ?_
  refine sp_then ?_
  refine sw_seq ?_
  refine sw_region ?_
  refine r_fieldAddr (k := ?_)
  refine r_load_one (k := ?_)
  refine r_len (k := ?_)
  refine r_assign (k := ?_)
  refine sl_nil ?_
  refine sp_then ?_
  refine sw_seq ?_
  refine sw_seq ?_
  refine sw_region ?_
  refine r_move (k := ?_)
  refine r_lss (k := ?_)
  refine r_move (k := ?_)
  refine r_re (t := 11) (v' := vb false) rfl (by rw [decide_eq_false (by omega)]) ?_
  refine gd_yes (k := ?_)
  refine r_move (k := ?_)
  refine gd_yes (k := ?_)
  refine r_gtr (k := ?_)
  refine rd_pick_f (k := ?_)
  refine r_move (k := ?_)
  refine r_re (t := 15) (v' := vb false) rfl (by rw [decide_eq_false (by omega)]) ?_
  refine gd_yes (k := ?_)
  refine r_fieldAddr (k := ?_)
  refine gd_yes (k := ?_)
  refine r_load_one (k := ?_)
  refine gd_yes (k := ?_)
  refine r_len (k := ?_)
  refine gd_yes (k := ?_)
  refine r_gtr (k := ?_)
  refine rd_pick_f (k := ?_)
  refine r_move (k := ?_)
  refine r_re (t := 21) (v' := vb false) rfl (by rw [decide_eq_false (by omega)]) ?_
  refine gd_yes (k := ?_)
  refine r_fieldAddr (k := ?_)
  refine gd_yes (k := ?_)
  refine r_load_one (k := ?_)
  refine gd_yes (k := ?_)
  refine r_move (k := ?_)
  refine r_re (t := 24) (v' := vb false) rfl (by rw [ho]) ?_
  refine gd_no (k := ?_)
  refine gd_no (k := ?_)
  refine gd_no (k := ?_)
  refine gd_no (k := ?_)
  refine gd_yes (k := ?_)
  refine rd_pick_f (k := ?_)
  refine rd_pick_f (k := ?_)
  refine sl_nil ?_
  refine sp_then ?_
  refine swd_f (h := ?_)
  refine sw_skip ?_
  refine sp_then ?_
  refine sw_seq ?_
  refine sw_seq ?_
  refine sw_region ?_
  refine r_assign (k := ?_)
  refine sl_nil ?_
  refine sp_then ?_
  refine sw_block ?_
  refine sw_loop (ι := { i : Nat // i ≤ d.cache.xs.length }) (fun i => [(1, .pointer (some ⟨b1, 0, none⟩)), (3, vi (d.pages.xs.length : Int)), (4, vi (i.1 : Int))]) (fun _ => [.box b1 d.cs 60]) (fun _ => [d.rc]) (fun _ => []) (fun i => d.cache.xs.length - i.1) ⟨0, by omega⟩ ?_ fun i => ?_
  · exact Ent.mk' (by repeat' (first | trivial | exact rfl | apply And.intro)) (by repeat' (first | trivial | exact .head _ | apply And.intro | apply List.Mem.tail))
  obtain ⟨i, hi⟩ := i
  dsimp only
  refine sw_seq ?_
  refine sw_seq ?_
  refine sw_region ?_
  refine r_move (k := ?_)
  refine r_fieldAddr (k := ?_)
  refine r_load_one (k := ?_)
  refine r_len (k := ?_)
  refine r_lss (k := ?_)
  refine sl_nil ?_
  refine sp_then ?_
  refine sw_cond rfl (fun h => ?_) (fun h => ?_)
  · have h := of_decide_eq_true h
    have hi' : i < d.cache.xs.length := by omega
    have hca : 0 ≤ d.cache.xs[i].at' ∧ d.cache.xs[i].at' < (d.pages.xs.length : Int) := hd.f.ca d.cache.xs[i] (List.getElem_mem hi')
    have hat : (wrsV d.cache.xs)[i * 257 + 0]? = some (vi d.cache.xs[i].at') := fm_get _ i 0 (wrsV_h hd.f) hi' rfl
    refine sw_skip ?_
    refine sp_then ?_
    refine sw_seq ?_
    refine sw_block ?_
    refine sw_seq ?_
    refine sw_region ?_
    refine r_fieldAddr (k := ?_)
    refine r_load_one (k := ?_)
    refine r_move (k := ?_)
    refine r_idx (cs := wrsV d.cache.xs) (by exact tl rfl) (by exact rfl) (by exact rfl) (by omega) (by omega) (by iterate 24 (first | exact .head _ | apply List.Mem.tail | skip)) (by rw [hwl]; exact Nat.le_refl _) (by exact rfl) (by exact Int.toNat_natCast _) (by exact rfl) ?_
    refine r_fieldAddr_mem (o := i * 257) (cs := wrsV d.cache.xs) (by exact tf rfl rfl) (by exact rfl) (by exact rfl) (by iterate 24 (first | exact .head _ | apply List.Mem.tail | skip)) (by omega) (by exact rfl) ?_
    refine r_load_mem1 (v := vi d.cache.xs[i].at') (cs := wrsV d.cache.xs) (by exact tz rfl) (by exact rfl) (by iterate 24 (first | exact .head _ | apply List.Mem.tail | skip)) hat (by exact rfl) ?_
    refine r_lss (k := ?_)
    refine r_move (k := ?_)
    refine r_re (t := 45) (v' := vb false) rfl (by rw [decide_eq_false (by omega)]) ?_
    refine gd_yes (k := ?_)
    refine r_fieldAddr (k := ?_)
    refine gd_yes (k := ?_)
    refine r_load_one (k := ?_)
    refine gd_yes (k := ?_)
    refine r_move (k := ?_)
    refine gd_yes (k := ?_)
    refine r_idx (cs := wrsV d.cache.xs) (by exact tl rfl) (by exact rfl) (by exact rfl) (by omega) (by omega) (by iterate 24 (first | exact .head _ | apply List.Mem.tail | skip)) (by rw [hwl]; exact Nat.le_refl _) (by exact rfl) (by exact Int.toNat_natCast _) (by exact rfl) ?_
    refine gd_yes (k := ?_)
    refine r_fieldAddr_mem (o := i * 257) (cs := wrsV d.cache.xs) (by exact tf rfl rfl) (by exact rfl) (by exact rfl) (by iterate 24 (first | exact .head _ | apply List.Mem.tail | skip)) (by omega) (by exact rfl) ?_
    refine gd_yes (k := ?_)
    refine r_load_mem1 (v := vi d.cache.xs[i].at') (cs := wrsV d.cache.xs) (by exact tz rfl) (by exact rfl) (by iterate 24 (first | exact .head _ | apply List.Mem.tail | skip)) hat (by exact rfl) ?_
    refine gd_yes (k := ?_)
    refine r_move (k := ?_)
    refine gd_yes (k := ?_)
    refine r_geq (k := ?_)
    refine rd_pick_f (k := ?_)
    refine sl_nil ?_
    refine sp_then ?_
    refine w_re (t := 54) (v' := vb false) rfl (by rw [decide_eq_false (by omega)]) ?_
    refine swd_f (h := ?_)
    refine sw_skip ?_
    refine sp_block ?_
    refine sp_then ?_
    refine sw_region ?_
    refine r_move (k := ?_)
    refine r_add64 (k := ?_)
    refine r_assign (k := ?_)
    refine sl_nil ?_
    refine sp_loop (ι := { i : Nat // i ≤ d.cache.xs.length }) ⟨i + 1, by omega⟩ ?_ ?_
    · dsimp only; omega
    · exact Ent.mk' (by repeat' (first | trivial | exact rfl | apply And.intro)) (by repeat' (first | trivial | exact .head _ | apply And.intro | apply List.Mem.tail))
  refine sw_exit ?_
  refine sp_then_exit ?_
  refine sp_loop_exit ?_
  refine sp_block_exit ?_
  refine sp_then ?_
  refine sw_seq ?_
  refine sw_seq ?_
  refine sw_region ?_
  refine r_assign (k := ?_)
  refine sl_nil ?_
  refine sp_then ?_
  refine sw_block ?_
  refine sw_loop (ι := Unit) (fun _ => [(1, .pointer (some ⟨b1, 0, none⟩)), (5, vi 0)]) (fun _ => [.box b1 d.cs 60]) (fun _ => []) (fun _ => []) (fun _ => 0) () ?_ fun _ => ?_
  · exact Ent.mk' (by repeat' (first | trivial | exact rfl | apply And.intro)) (by repeat' (first | trivial | exact .head _ | apply And.intro | apply List.Mem.tail))
  refine sw_seq ?_
  refine sw_seq ?_
  refine sw_region ?_
  refine r_move (k := ?_)
  refine r_fieldAddr (k := ?_)
  refine r_load_one (k := ?_)
  refine r_len (k := ?_)
  refine r_lss (k := ?_)
  refine sl_nil ?_
  refine sp_then ?_
  refine w_re (t := 59) (v' := vb false) rfl (by rw [hb]; rfl) ?_
  refine swd_f (h := ?_)
  refine sw_exit ?_
  refine sp_then_exit ?_
  refine sp_loop_exit ?_
  refine sp_block_exit ?_
  refine sp_then ?_
  refine sw_seq ?_
  refine sw_region ?_
  refine r_assign (k := ?_)
  refine sl_nil ?_
  refine sp_then ?_
  refine sw_ret ?_
  refine sp_retv rfl rfl (.tmp rfl) rfl rfl ⟨rfl, rfl, rfl⟩ (by simp) rfl (by simp)

theorem c_r3at0 (G : Res) (d : DiskV) (hd : d.ok) (ho : d.off = false) (hb : d.bad.xs = []) : Ctr Tryd.prog G 99 [d.v, vi 0] [] [d.rp, d.rc, d.rb] (ret1 (vi 0)) := by
  have hn0 : 32 ≤ d.pages.xs.length := hd.f.n0
  refine Ctr.intro Tryd.func99 (by kernel_rfl) rfl Tryd.ntmps99 rfl rfl rfl fun w' X => ?_
  refine sw_seq ?_
  refine sw_region ?_
  refine r_box (cs := d.cs) (by exact rfl) rfl (by exact rfl) fun b1 => ?_
  refine r_assign (k := ?_)
  refine sl_nil ?_
  refine sp_then ?_
  refine sw_seq ?_
  refine sw_seq ?_
  refine sw_region ?_
  refine r_load_all (k := ?_)
  refine r_call1 (c_r3may G d hd ho hb) (by exact rfl) (by exact rfl) (by exact rfl) (PhAll.all (by repeat' (first | trivial | exact .head _ | apply And.intro | apply List.Mem.tail))) (by exact rfl) ?_
  refine r_not (k := ?_)
  refine r_move (k := ?_)
  refine gd_yes (k := ?_)
  refine r_move (k := ?_)
  refine gd_yes (k := ?_)
  refine r_lss (k := ?_)
  refine rd_pick_f (k := ?_)
  refine r_move (k := ?_)
  refine r_re (t := 12) (v' := vb false) rfl rfl ?_
  refine gd_yes (k := ?_)
  refine r_move (k := ?_)
  refine gd_yes (k := ?_)
  refine r_fieldAddr (k := ?_)
  refine gd_yes (k := ?_)
  refine r_load_one (k := ?_)
  refine gd_yes (k := ?_)
  refine r_len (k := ?_)
  refine gd_yes (k := ?_)
  refine r_geq (k := ?_)
  refine rd_pick_f (k := ?_)
  refine sl_nil ?_
  refine sp_then ?_
  refine w_re (t := 18) (v' := vb false) rfl (by rw [decide_eq_false (by omega)]) ?_
  refine swd_f (h := ?_)
  refine sw_skip ?_
  refine sp_then ?_
  refine sw_seq ?_
  refine sw_seq ?_
  refine sw_region ?_
  refine r_fieldAddr (k := ?_)
  refine r_load_one (k := ?_)
  refine sl_nil ?_
  refine sp_then ?_
  refine w_re (t := 20) (v' := vb false) rfl (by rw [ho]) ?_
  refine swd_f (h := ?_)
  refine sw_skip ?_
  refine sp_then ?_
  refine sw_seq ?_
  refine sw_region ?_
  refine r_assign (k := ?_)
  refine sl_nil ?_
  refine sp_then ?_
  refine sw_ret ?_
  refine sp_retv rfl rfl (.tmp rfl) rfl rfl ⟨rfl, rfl, rfl⟩ (by simp) rfl (by simp)

theorem c_r3flush (G : Res) (d : DiskV) (hd : d.ok) (ho : d.off = false) (hb : d.bad.xs = []) : Ctr Tryd.prog G 72 [d.v] [] [d.rp, d.rc, d.rb] (retD d.pure.flush) := by
  have hn0 : 32 ≤ d.pages.xs.length := hd.f.n0
  have hn1 : d.pages.xs.length ≤ 64 := hd.f.n1
  have hc : d.cache.xs.length ≤ 1000 := hd.f.c
  have hwl : (wrsV d.cache.xs).length = d.cache.xs.length * 257 := wrsV_len hd.f
  have hpl : (pgsV d.pages.xs).length = d.pages.xs.length * 256 := pgsV_len hd.f
  refine Ctr.intro Tryd.func72 (by kernel_rfl) rfl Tryd.ntmps72 rfl rfl rfl fun w' X => ?_
  refine sw_seq ?_
  refine sw_region ?_
  refine r_box (cs := d.cs) (by exact rfl) rfl (by exact rfl) fun b1 => ?_
  refine r_alloc (by exact z60) (by exact rfl) (by exact rfl) fun b2 => ?_
  refine r_assign (k := ?_)
  refine sl_nil ?_
  refine sp_then ?_
  refine sw_seq ?_
  refine sw_region ?_
  refine r_load_all (k := ?_)
  refine r_call (Bp := []) (c_r3copy G d hd) (by exact rfl) (by exact rfl) (by exact rfl) (PhAll.all (by repeat' (first | trivial | exact .head _ | apply And.intro | apply List.Mem.tail))) (by exact rfl) ?_
  rintro _ _ _ ⟨v1, v2, v3, ⟨h1, g1⟩, ⟨h2, g2⟩, ⟨h3, g3⟩, rfl, rfl, rfl⟩
  refine r_alloc (by exact z60) (by exact rfl) (by exact rfl) fun b4 => ?_
  refine r_store_all (cs := [.slice none 0 0, .slice none 0 0, .slice none 0 0, vb false]) (vs := [v1, v2, v3, vb d.off]) (by exact tz rfl) (by exact rfl) (by exact rfl) (by iterate 24 (first | exact .hd | apply Upd.tl | skip)) rfl rfl (by rw [List.all_cons, g1, List.all_cons, g2, List.all_cons, g3]; rfl) rfl ?_
  refine o_pull 1 rfl ?_
  refine o_rowBox (by show 0 < d.pages.xs.length; omega) fun b cap cs e1 q1 q2 q3 q4 _ => ?_
  cases e1
  refine o_pull 2 rfl ?_
  refine o_drop rfl ?_
  refine o_pull 2 rfl ?_
  refine o_row fun bab capb e3 q7 q8 _ => ?_
  cases e3
  obtain ⟨rest, er⟩ : ∃ rest, cs = pgsV d.pages.xs ++ rest := ⟨cs.drop (d.pages.xs.length * 256), by
    have : cs.take (d.pages.xs.length * 256) = pgsV d.pages.xs := q4
    rw [← this, List.take_append_drop]⟩
  subst er
  have hb0 : d.pure.bad = [] := hb
  rw [hb0]
  dsimp only [pull, push, two, List.drop, List.take, List.cons_append, List.nil_append]
  simp only [show d.pure.pages = d.pages.xs from rfl, show d.pure.off = d.off from rfl] at q3 ⊢
  refine sl_nil ?_
  refine sp_then ?_
  refine sw_seq ?_
  refine sw_region ?_
  refine r_load_all (k := ?_)
  refine r_call1 (c_r3at0 G d hd ho hb) (by exact rfl) (by exact rfl) (by exact rfl) (PhAll.all (by repeat' (first | trivial | exact .head _ | apply And.intro | apply List.Mem.tail))) (by exact rfl) ?_
  simp only [List.append]
  refine r_assign (k := ?_)
  refine sl_nil ?_
  refine sp_then ?_
  refine sw_seq ?_
  refine sw_seq ?_
  refine sw_region ?_
  refine r_move (k := ?_)
  refine r_neq (k := ?_)
  refine sl_nil ?_
  refine sp_then ?_
  refine w_re (t := 15) (v' := vb false) rfl rfl ?_
  refine swd_f (h := ?_)
  refine sw_skip ?_
  refine sp_then ?_
  refine sw_seq ?_
  refine sw_seq ?_
  refine sw_region ?_
  refine r_assign (k := ?_)
  refine sl_nil ?_
  refine sp_then ?_
  refine sw_block ?_
  refine sw_loop (ι := { q : Nat × Option Addr × Nat // q.1 ≤ d.cache.xs.length ∧ q.2.2 ≤ maxLen }) (fun q => [(1, .pointer (some ⟨b1, 0, none⟩)), (2, .pointer (some ⟨b2, 0, none⟩)), (3, vi 0), (4, .pointer (some ⟨b4, 0, none⟩)), (6, vi (q.1.1 : Int))])
    (fun q => [.box b (pgsV (pagesAt d.pages.xs (d.cache.xs.take q.1.1)) ++ rest) 37, .box b4 [.slice (some ⟨b, 0, none⟩) d.pages.xs.length cap, v2, .slice q.1.2.1 0 q.1.2.2, vb d.off] 60, .box b2 [.slice none 0 0, .slice none 0 0, .slice none 0 0, vb false] 60, .box b1 d.cs 60]) (fun _ => [d.rc]) (fun _ => []) (fun q => d.cache.xs.length - q.1.1) ⟨(0, bab, capb), by dsimp only; omega, q8⟩ ?_ fun q => ?_
  · exact Ent.mk' (by repeat' (first | trivial | exact rfl | apply And.intro)) (by repeat' (first | trivial | exact .head _ | apply And.intro | apply List.Mem.tail))
  obtain ⟨⟨i, ba', cap'⟩, hi, hcm⟩ := q
  dsimp only at hi hcm ⊢
  refine sw_seq ?_
  refine sw_seq ?_
  refine sw_region ?_
  refine r_move (k := ?_)
  refine r_fieldAddr (k := ?_)
  refine r_load_one (k := ?_)
  refine r_len (k := ?_)
  refine r_lss (k := ?_)
  refine sl_nil ?_
  refine sp_then ?_
  refine sw_cond rfl (fun h => ?_) (fun h => ?_)
  · have h := of_decide_eq_true h
    have hi' : i < d.cache.xs.length := by omega
    obtain ⟨x, ex⟩ : ∃ x, x = d.cache.xs[i] := ⟨_, rfl⟩
    have hca : 0 ≤ x.at' ∧ x.at' < (d.pages.xs.length : Int) := ex ▸ hd.f.ca d.cache.xs[i] (List.getElem_mem hi')
    have hxl : x.data.length = 256 := ex ▸ hd.f.cd d.cache.xs[i] (List.getElem_mem hi')
    have hl1 : (bv x.data).length = 256 := by rw [bv_len, hxl]
    have hl2 : x.cs.length = 257 := by rw [WrV.cs, List.length_cons, hl1]
    obtain ⟨P, eP⟩ : ∃ P, P = pagesAt d.pages.xs (d.cache.xs.take i) := ⟨_, rfl⟩
    have hPl : P.length = d.pages.xs.length := eP ▸ pagesAt_len _ _
    have hPh : ∀ y ∈ P, (bv y).length = 256 := fun y hy => by
      rw [bv_len]
      exact pagesAt_h (d.cache.xs.take i) (fun z hz => hd.f.cd z (List.take_subset _ _ hz)) d.pages.xs hd.f.pg y (eP ▸ hy)
    have hPc : (pgsV P).length = P.length * 256 := fm_len P hPh
    have hat : x.at'.toNat < P.length := by omega
    have enext : pagesAt d.pages.xs (d.cache.xs.take (i + 1)) = P.set x.at'.toNat x.data := by rw [pagesAt_take _ _ i hi', ← ex, ← eP]
    rw [← eP]
    refine sw_skip ?_
    refine sp_then ?_
    refine sw_seq ?_
    refine sw_block ?_
    refine sw_seq ?_
    refine sw_region ?_
    refine r_fieldAddr (k := ?_)
    refine r_load_one (k := ?_)
    refine r_move (k := ?_)
    refine r_idx (cs := wrsV d.cache.xs) (by exact tl rfl) (by exact rfl) (by exact rfl) (by omega) (by omega) (by iterate 24 (first | exact .head _ | apply List.Mem.tail | skip)) (by rw [hwl]; exact Nat.le_refl _) (by exact rfl) (by exact Int.toNat_natCast _) (by exact rfl) ?_
    refine r_load_mem (vs := x.cs) (by exact tz rfl) (by exact rfl) (by iterate 24 (first | exact .head _ | apply List.Mem.tail | skip)) (ex ▸ fm_at _ i (wrsV_h hd.f) hi') rfl hl2 (by exact rfl) ?_
    refine r_alloc (by exact z147) (cs := zeroW) (by kernel_rfl) (by exact rfl) fun b6 => ?_
    refine r_store_all (cs := zeroW) (vs := x.cs) (by exact tz rfl) (by exact rfl) (by exact rfl) (by iterate 24 (first | exact .hd | apply Upd.tl | skip)) rfl hl2 (wrsV_oneC _) rfl ?_
    refine sl_nil ?_
    refine sp_then ?_
    refine sw_seq ?_
    refine sw_region ?_
    refine r_fieldAddr (k := ?_)
    refine r_load_one (k := ?_)
    refine r_fieldAddr (k := ?_)
    refine r_load_one (k := ?_)
    refine r_fieldAddr (k := ?_)
    refine r_load_agg (cs := x.cs) (off := 1) (vs := bv x.data) (by exact tz rfl) (by exact rfl) (by iterate 24 (first | exact .head _ | apply List.Mem.tail | skip)) (by rw [WrV.cs, List.drop_succ_cons, List.drop_zero]; exact List.take_of_length_le (Nat.le_of_eq hl1)) hl1 (by exact rfl) ?_
    refine r_idx_own (i := x.at'.toNat) (by exact tl rfl) (by exact rfl) (by exact rfl) hca.1 hca.2 rfl (by exact rfl) ?_
    refine r_store (vs := bv x.data) (cs' := pgsV (P.set x.at'.toNat x.data) ++ rest) (by exact tz rfl) (by exact rfl) (by exact rfl) (by iterate 24 (first | exact .hd | apply Upd.tl | skip)) rfl hl1 (bv_one _) (by rw [hl1]; refine Nat.le_trans (m := P.length * 256) (by omega) ?_; rw [← hPc]; exact Nat.le_trans (Nat.le_add_right _ rest.length) (Nat.le_of_eq (List.length_append).symm)) (fm_set P x.at'.toNat x.data hPh hl1 hat rest) ?_
    refine sl_nil ?_
    refine sp_then ?_
    refine sw_seq ?_
    refine sw_region ?_
    refine r_assign (k := ?_)
    refine sl_nil ?_
    refine sp_then ?_
    refine sw_seq ?_
    refine sw_seq ?_
    refine sw_region ?_
    refine r_assign (k := ?_)
    refine sl_nil ?_
    refine sp_then ?_
    refine sw_block ?_
    refine sw_loop (ι := Unit) (fun _ => [(1, .pointer (some ⟨b1, 0, none⟩)), (2, .pointer (some ⟨b2, 0, none⟩)), (3, vi 0), (4, .pointer (some ⟨b4, 0, none⟩)), (6, vi (i : Int)), (8, .slice none 0 0), (9, vi 0)])
      (fun _ => [.box b6 x.cs 147, .box b (pgsV (P.set x.at'.toNat x.data) ++ rest) 37, .box b4 [.slice (some ⟨b, 0, none⟩) d.pages.xs.length cap, v2, .slice ba' 0 cap', vb d.off] 60, .box b2 [.slice none 0 0, .slice none 0 0, .slice none 0 0, vb false] 60, .box b1 d.cs 60]) (fun _ => [d.rc]) (fun _ => []) (fun _ => 0) () ?_ fun _ => ?_
    · exact Ent.mk' (by repeat' (first | trivial | exact rfl | apply And.intro)) (by repeat' (first | trivial | exact .head _ | apply And.intro | apply List.Mem.tail))
    refine sw_seq ?_
    refine sw_seq ?_
    refine sw_region ?_
    refine r_move (k := ?_)
    refine r_fieldAddr (k := ?_)
    refine r_load_one (k := ?_)
    refine r_len (k := ?_)
    refine r_lss (k := ?_)
    refine sl_nil ?_
    refine sp_then ?_
    refine w_re (t := 41) (v' := vb false) rfl rfl ?_
    refine swd_f (h := ?_)
    refine sw_exit ?_
    refine sp_then_exit ?_
    refine sp_loop_exit ?_
    refine sp_block_exit ?_
    refine sp_then ?_
    refine sw_region ?_
    refine r_move (k := ?_)
    refine r_fieldAddr (k := ?_)
    refine r_store1 (k := ?_)
    refine sl_nil ?_
    refine sp_block ?_
    refine sp_then ?_
    refine sw_region ?_
    refine r_move (k := ?_)
    refine r_add64 (k := ?_)
    refine r_assign (k := ?_)
    refine sl_nil ?_
    refine sp_drop rfl ?_
    refine sp_loop (ι := { q : Nat × Option Addr × Nat // q.1 ≤ d.cache.xs.length ∧ q.2.2 ≤ maxLen }) ⟨(i + 1, none, 0), by dsimp only; omega, Nat.zero_le _⟩ ?_ ?_
    · dsimp only; omega
    · dsimp only
      rw [enext]
      exact Ent.mk' (by repeat' (first | trivial | exact rfl | apply And.intro)) (by repeat' (first | trivial | exact .head _ | apply And.intro | apply List.Mem.tail))
  have h := of_decide_eq_false h
  obtain rfl : i = d.cache.xs.length := by omega
  rw [List.take_length]
  have hPl : (pagesAt d.pages.xs d.cache.xs).length = d.pages.xs.length := pagesAt_len _ _
  refine sw_exit ?_
  refine sp_then_exit ?_
  refine sp_loop_exit ?_
  refine sp_block_exit ?_
  refine sp_then ?_
  refine sw_seq ?_
  refine sw_region ?_
  refine r_fieldAddr (k := ?_)
  refine r_store1 (k := ?_)
  refine sl_nil ?_
  refine sp_then ?_
  refine sw_seq ?_
  refine sw_region ?_
  refine r_load_all (k := ?_)
  refine r_store_all (k := ?_)
  refine r_assign (k := ?_)
  refine sl_nil ?_
  refine sp_then ?_
  refine sw_ret ?_
  refine sp_freeze ?_
  refine sp_of_sl (fun h => f_have (φ := Res.mem (some ⟨b, 0, none⟩) (pgsV (pagesAt d.pages.xs d.cache.xs))) (fun V w hw => by
    have := mem_take (k := (pgsV (pagesAt d.pages.xs d.cache.xs)).length) (hw _ (.head _))
    rwa [List.take_left] at this) h) ?_
  refine sp_of_sl (fun h => f_have (φ := Res.mem none (wrsV [])) (fun V w hw i v hv => by simp [wrsV] at hv) h) ?_
  refine sp_of_sl (fun h => f_have (φ := Res.mem ba' (isV [])) (fun V w hw i v hv => by simp [isV] at hv) h) ?_
  refine sp_ret2 rfl rfl (.agg rfl (tz rfl) rfl (.tail _ (.head _))) (.tmp rfl) rfl rfl ⟨rfl, ⟨⟨some ⟨b, 0, none⟩, cap, pagesAt d.pages.xs d.cache.xs⟩, ⟨none, 0, []⟩, ⟨ba', cap', []⟩, d.off⟩, by simp [DiskV.v, DiskV.cs, Sl.v, hPl], ⟨⟨by rw [hPl]; exact q1, q2⟩, ⟨Nat.le_refl _, Nat.zero_le _⟩, ⟨Nat.zero_le _, hcm⟩, flush_fine hd.f⟩, rfl, rfl⟩ (by simp) rfl (PhAll.all (by repeat' (first | trivial | exact .head _ | apply And.intro | apply List.Mem.tail)))

theorem c_flushed (G : Res) (d : DiskV) (hd : d.ok) (ho : d.off = false) (hb : d.bad.xs = []) : Ctr Tryd.prog G 35 [d.v] [] [d.rp, d.rc, d.rb] (retFz d.pure.flush) := by
  refine Ctr.intro Tryd.func35 (by kernel_rfl) rfl Tryd.ntmps35 rfl rfl rfl fun w' X => ?_
  refine sw_seq ?_
  refine sw_region ?_
  refine r_box (cs := d.cs) (by exact rfl) rfl (by exact rfl) fun b1 => ?_
  refine r_alloc (by exact z60) (by exact rfl) (by exact rfl) fun b2 => ?_
  refine sl_nil ?_
  refine sp_then ?_
  refine sw_seq ?_
  refine sw_region ?_
  refine r_load_all (k := ?_)
  refine r_callF (c_r3flush G d hd ho hb) (by exact rfl) (by exact rfl) (by exact rfl) (PhAll.all (by repeat' (first | trivial | exact .head _ | apply And.intro | apply List.Mem.tail))) (by exact rfl) ?_
  rintro _ _ ⟨x, rfl, hx, hxp, rfl⟩
  refine r_move (k := ?_)
  refine r_ext (k := ?_)
  refine r_ext (k := ?_)
  refine r_alloc (by exact z60) (by exact rfl) (by exact rfl) fun b3 => ?_
  refine r_store_all (k := ?_)
  refine r_assign (k := ?_)
  refine sl_nil ?_
  refine sp_then ?_
  refine sw_seq ?_
  refine sw_region ?_
  refine r_load_all (k := ?_)
  refine r_store_all (k := ?_)
  refine sl_nil ?_
  refine sp_then ?_
  refine sw_ret ?_
  refine sp_retv rfl rfl (.agg rfl (tz rfl) rfl (.tail _ (.head _))) rfl rfl ⟨rfl, x, rfl, hx, hxp, rfl⟩ (by simp) rfl (PhAll.all (by repeat' (first | trivial | exact .head _ | apply And.intro | apply List.Mem.tail)))
end Go.Proofs.YtjahiohlekdhoaaDoor

namespace Go.Proofs.YtjahiohlekdhoaaDoor
open Go
set_option maxHeartbeats 4000000
set_option maxRecDepth 4000
attribute [local irreducible] SW SL SP RA Then FQ IQ LoopQ RQ AQ NX CutQ Exit.noGoto

def DiskP.spoil (d : DiskP) (n : Nat) : DiskP := { d with bad := [(n : Int)] }
theorem spoil_fine {d : DiskP} (h : d.fine) {n : Nat} (hn : n < d.pages.length) : (d.spoil n).fine := ⟨h.n0, h.n1, h.c, h.pg, h.cd, h.ca, .inr ⟨n, rfl, by omega, by show (n : Int) < (d.pages.length : Int); omega⟩, h.of⟩
theorem c_spoil (G : Res) (d : DiskV) (hd : d.ok) (hb : d.bad.xs = []) (n : Nat) (hn : n < d.pages.xs.length) : Ctr Tryd.prog G 39 [d.v, vi (n : Int)] [] [d.rp, d.rc, d.rb] (retD (d.pure.spoil n)) := by
  have hn1 : d.pages.xs.length ≤ 64 := hd.f.n1
  refine Ctr.intro Tryd.func39 (by kernel_rfl) rfl Tryd.ntmps39 rfl rfl rfl fun w' X => ?_
  refine sw_seq ?_
  refine sw_region ?_
  refine r_box (cs := d.cs) (by exact rfl) rfl (by exact rfl) fun b2 => ?_
  refine r_alloc (by exact z60) (by exact rfl) (by exact rfl) fun b4 => ?_
  refine r_assign (k := ?_)
  refine sl_nil ?_
  refine sp_then ?_
  refine sw_seq ?_
  refine sw_region ?_
  refine r_load_all (k := ?_)
  refine r_call (Bp := []) (c_own G d hd) (by exact rfl) (by exact rfl) (by exact rfl) (PhAll.all (by repeat' (first | trivial | exact .head _ | apply And.intro | apply List.Mem.tail))) (by exact rfl) ?_
  rintro _ _ _ ⟨v1, v2, v3, ⟨h1, g1⟩, ⟨h2, g2⟩, ⟨h3, g3⟩, rfl, rfl, rfl⟩
  refine r_alloc (by exact z60) (by exact rfl) (by exact rfl) fun b6 => ?_
  refine r_store_all (cs := [.slice none 0 0, .slice none 0 0, .slice none 0 0, vb false]) (vs := [v1, v2, v3, vb d.off]) (by exact tz rfl) (by exact rfl) (by exact rfl) (by iterate 24 (first | exact .hd | apply Upd.tl | skip)) rfl rfl (by rw [List.all_cons, g1, List.all_cons, g2, List.all_cons, g3]; rfl) rfl ?_
  refine o_pull 3 rfl ?_
  refine o_drop rfl ?_
  dsimp only [rowsD, pull, List.drop, List.take, List.cons_append, List.nil_append, List.append]
  refine sl_nil ?_
  refine sp_then ?_
  refine sw_seq ?_
  refine sw_seq ?_
  refine sw_region ?_
  refine r_move (k := ?_)
  refine r_lss (k := ?_)
  refine r_move (k := ?_)
  refine r_re (t := 14) (v' := vb false) rfl (by rw [decide_eq_false (by omega)]) ?_
  refine gd_yes (k := ?_)
  refine r_move (k := ?_)
  refine gd_yes (k := ?_)
  refine r_fieldAddr (k := ?_)
  refine gd_yes (k := ?_)
  refine r_load_one (k := ?_)
  refine gd_yes (k := ?_)
  refine r_len (k := ?_)
  refine gd_yes (k := ?_)
  refine r_geq (k := ?_)
  refine rd_pick_f (k := ?_)
  refine sl_nil ?_
  refine sp_then ?_
  refine w_re (t := 20) (v' := vb false) rfl (by rw [decide_eq_false (by omega)]) ?_
  refine swd_f (h := ?_)
  refine sw_skip ?_
  refine sp_then ?_
  refine sw_seq ?_
  refine sw_region ?_
  refine r_assign (k := ?_)
  refine sl_nil ?_
  refine sp_then ?_
  refine sw_seq ?_
  refine sw_region ?_
  refine r_assign (k := ?_)
  refine sl_nil ?_
  refine sp_then ?_
  refine sw_seq ?_
  refine sw_seq ?_
  refine sw_region ?_
  refine r_assign (k := ?_)
  refine sl_nil ?_
  refine sp_then ?_
  refine sw_block ?_
  refine sw_loop (ι := Unit) (fun _ => [(1, vi (n : Int)), (2, .pointer (some ⟨b2, 0, none⟩)), (4, .pointer (some ⟨b4, 0, none⟩)), (6, .pointer (some ⟨b6, 0, none⟩)), (7, .slice none 0 0), (8, vb false), (9, vi 0)]) (fun _ => [.box b6 [v1, v2, v3, vb d.off] 60, .row v1 d.pages.xs.length (pgsV d.pages.xs) 37 256, .row v2 d.cache.xs.length (wrsV d.cache.xs) 147 257, .box b4 [.slice none 0 0, .slice none 0 0, .slice none 0 0, vb false] 60, .box b2 d.cs 60]) (fun _ => []) (fun _ => []) (fun _ => 0) () ?_ fun _ => ?_
  · exact Ent.mk' (by repeat' (first | trivial | exact rfl | apply And.intro)) (by repeat' (first | trivial | exact .head _ | apply And.intro | apply List.Mem.tail))
  refine sw_seq ?_
  refine sw_seq ?_
  refine sw_region ?_
  refine r_move (k := ?_)
  refine r_fieldAddr (k := ?_)
  refine r_load_one (k := ?_)
  refine r_len (k := ?_)
  refine r_lss (k := ?_)
  refine sl_nil ?_
  refine sp_then ?_
  refine w_re (t := 26) (v' := vb false) rfl (by rw [hb]; rfl) ?_
  refine swd_f (h := ?_)
  refine sw_exit ?_
  refine sp_then_exit ?_
  refine sp_loop_exit ?_
  refine sp_block_exit ?_
  refine sp_then ?_
  refine sw_seq ?_
  refine sw_seq ?_
  refine sw_region ?_
  refine r_move (k := ?_)
  refine r_not (k := ?_)
  refine sl_nil ?_
  refine sp_then ?_
  refine swd_t (h := ?_)
  refine sw_region ?_
  refine r_move (k := ?_)
  refine r_move (k := ?_)
  refine r_lit (vs := [vi (n : Int)]) (xs := [.tmp 62]) (cells := isV [(n : Int)]) (by exact tl rfl) (by exact z3) rfl rfl (fun v hv => by rw [List.mem_singleton.1 hv]; rfl) (by simp) (by simp) (by exact rfl) (by simp [isV, Value.cells]) (by exact rfl) fun l => ?_
  refine o_row fun ba cap e1 _ _ _ => ?_
  cases e1
  refine o_nil 3 1 ?_
  refine r_append (n := 0) (xs := []) (mm := 1) (news := isV [(n : Int)]) (by exact tl rfl) (by exact z3) (by kernel_rfl) rfl (by exact rfl) (by exact rfl) (by iterate 24 (first | exact .head _ | apply List.Mem.tail | skip)) (by simp [isV]) (isV_one _) (by omega) (by omega) (by exact rfl) fun v4 h4 g4 => ?_
  refine r_assign (k := ?_)
  refine sl_nil ?_
  refine sp_then ?_
  refine sw_seq ?_
  refine sw_region ?_
  refine r_move (k := ?_)
  refine r_fieldAddr (k := ?_)
  refine r_store1 (k := ?_)
  refine sl_nil ?_
  refine sp_then ?_
  refine sw_seq ?_
  refine sw_region ?_
  refine r_load_all (k := ?_)
  refine r_store_all (cs := [.slice none 0 0, .slice none 0 0, .slice none 0 0, vb false]) (vs := [v1, v2, v4, vb d.off]) (by exact tz rfl) (by exact rfl) (by exact rfl) (by iterate 24 (first | exact .hd | apply Upd.tl | skip)) rfl rfl (by rw [List.all_cons, g1, List.all_cons, g2, List.all_cons, g4]; rfl) rfl ?_
  refine o_pull 2 rfl ?_
  refine o_pull 3 rfl ?_
  refine o_pull 1 rfl ?_
  refine o_disk (p := v1) (q := v2) (r := v4) (d := d.pure.spoil n) (spoil_fine hd.f hn) fun x hx hxp p1 p2 p3 => ?_
  subst p1 p2 p3
  have hxo : x.off = d.off := congrArg DiskP.off hxp
  refine r_assign (k := ?_)
  refine sl_nil ?_
  refine sp_then ?_
  refine sw_ret ?_
  refine sp_ret2 rfl rfl (.agg rfl (tz rfl) rfl (.tail _ (.head _))) (.tmp rfl) rfl rfl ⟨rfl, x, by rw [DiskV.v, DiskV.cs, hxo], hx, hxp, rfl⟩ (by simp) rfl (PhAll.all (by repeat' (first | trivial | exact .head _ | apply And.intro | apply List.Mem.tail)))
end Go.Proofs.YtjahiohlekdhoaaDoor

namespace Go.Proofs.YtjahiohlekdhoaaDoor
open Go

def half (A : List AncV) (k : Bool) : List AncV := (A.drop (bN k * 4)).take 4
theorem half_len {A : List AncV} (hA : A.length = 8) (k : Bool) : (half A k).length = 4 := by
  unfold half; rw [List.length_take, List.length_drop, hA]; cases k <;> rfl
theorem half_row {A : List AncV} (hA : A.length = 8) (k : Bool) : part' (ancsV A) (bN k * 56) 56 = ancsV (half A k) := by
  rw [part', show bN k * 56 = (bN k * 4) * 14 by omega, ancsV_drop]
  have h1 : ancsV (A.drop (bN k * 4)) = ancsV (half A k) ++ ancsV ((A.drop (bN k * 4)).drop 4) := by rw [half, ancsV, ancsV, ancsV, ← List.flatMap_append, List.take_append_drop]
  have h2 : (ancsV (half A k)).length = 56 := by rw [ancsV_len, half_len hA]
  rw [h1, ← h2, List.take_left]
theorem half_at {A : List AncV} (hA : A.length = 8) (k : Bool) {m : Nat} (hm : m < 4) : part' (ancsV (half A k)) (m * 14) 14 = (atA A k m).cs := by
  have hl := half_len hA k
  have hj : bN k * 4 + m < A.length := by rw [hA]; cases k <;> simp [bN] <;> omega
  rw [ancsV_at (half A k) m (by omega)]
  congr 1
  unfold half atA
  rw [List.getElem_take, List.getElem_drop, List.getD_eq_getElem?_getD, List.getElem?_eq_getElem hj]
  rfl
def cntN (L : Nat → Nat) : Nat → Nat
  | 0 => 0
  | j + 1 => cntN L j + if 0 < L j then 1 else 0
theorem cntN_le (L : Nat → Nat) : ∀ j, cntN L j ≤ j
  | 0 => Nat.le_refl _
  | j + 1 => by have := cntN_le L j; unfold cntN; split <;> omega
def txL (A : List AncV) (j : Nat) : Nat := (A.getD j zeroA).tx.toNat
/-- The slots' anchors of the law. -/
def oneT (n : Nat) (t : UInt32) (m : Nat) : AncP := if m = (t % 4).toNat then (plainA t (UInt16.ofNat n) 3 t).pure else AncP.zero
theorem one_cnt {A : List AncV} {t : UInt32} (ht : 0 < t.toNat) (h : ∀ b m, m < 4 → (atA A b m).tx.toNat = if m = (t % 4).toNat then t.toNat else 0) : cntN (txL A) 8 = 2 := by
  have h4 := mod4 t
  have e : ∀ b m, m < 4 → txL A (bN b * 4 + m) = if m = (t % 4).toNat then t.toNat else 0 := fun b m hm => h b m hm
  have e0 := e false 0 (by decide)
  have e1 := e false 1 (by decide)
  have e2 := e false 2 (by decide)
  have e3 := e false 3 (by decide)
  have e4 := e true 0 (by decide)
  have e5 := e true 1 (by decide)
  have e6 := e true 2 (by decide)
  have e7 := e true 3 (by decide)
  simp only [bN, Bool.false_eq_true, if_false, if_true, Nat.zero_mul, Nat.one_mul, Nat.zero_add, Nat.reduceAdd] at e0 e1 e2 e3 e4 e5 e6 e7
  simp only [cntN, e0, e1, e2, e3, e4, e5, e6, e7]
  generalize (t % 4).toNat = m at *
  obtain rfl | rfl | rfl | rfl : m = 0 ∨ m = 1 ∨ m = 2 ∨ m = 3 := by omega
  all_goals simp [ht]
theorem one_an (n : Nat) (t : UInt32) (ht : 0 < t.toNat) : anT (oneT n t) (fun m => if m = (t % 4).toNat then t.toNat else 0) := fun m _ => by
  unfold oneT
  dsimp only
  by_cases e : m = (t % 4).toNat
  · rw [if_pos e, if_pos e]; exact ⟨rfl, fun _ => rfl⟩
  · rw [if_neg e, if_neg e]; exact ⟨rfl, fun h => absurd rfl h⟩
theorem slot_off {d : DiskP} (h : d.off = true) (m : Nat) : d.slot m = AncP.zero := by unfold DiskP.slot; rw [if_pos h]
theorem slot_spoilt {d : DiskP} (h : d.cache = []) (m : Nat) : (d.spoil m).slot m = AncP.zero := by
  have hr : (d.spoil m).read m = (List.replicate 256 0, 31) := by
    unfold DiskP.read
    rw [show (d.spoil m).cache = [] from h]
    show (if hasN [(m : Int)] (m : Int) then _ else _) = _
    rw [if_pos (by simp [hasN])]
  unfold DiskP.slot
  split
  · rfl
  · rw [hr, if_neg (by decide)]
/-- An anchor of another size is none. -/
theorem slot_wrong {d : DiskP} (hz : ∀ m, m < 4 → d.slot m = AncP.zero) (ho : d.off = false) (a : AncV) (hs : ¬ a.size.toNat = d.pages.length) {m : Nat} (hm : m < 4) : (d.put a true).slot m = AncP.zero := by
  by_cases hr : a.right = true
  · have he : encV a = (a.page, 0) := by unfold encV; rw [if_pos hr]
    unfold DiskP.put
    rw [he, if_pos ⟨rfl, ho, rfl⟩]
    by_cases h : m = (a.tx % 4).toNat
    · subst h
      unfold DiskP.slot
      rw [read_write, if_pos rfl, page_decP a hr, if_neg (by show ¬ d.off = true; rw [ho]; decide), if_pos rfl, if_neg]
      rintro ⟨_, h⟩
      simp only [fitsS, Bool.and_eq_true, decide_eq_true_eq] at h
      exact hs h.2
    · rw [slot_write _ _ _ _ fun e => h e.symm]; exact hz m hm
  · unfold DiskP.put
    rw [if_neg, hz m hm]
    rintro ⟨h, _⟩
    unfold encV at h
    rw [if_neg hr] at h
    cases h
theorem none_sym {p : PairV} (h : ∀ b m, m < 4 → (p.get b).pure.slot m = AncP.zero) {A : List AncV} (hA : A.map AncV.pure = (List.range 4).map p.d0.pure.slot ++ (List.range 4).map p.d1.pure.slot) : A.length = 8 ∧ Sym A fun _ => 0 := by
  refine ⟨by have := congrArg List.length hA; simpa using this, fun b m hm => ?_⟩
  have e := at_get hA b hm
  rw [h b m hm] at e
  have e3 : (atA A b m).tx = 0 := congrArg AncP.tx e
  exact ⟨by rw [e3]; rfl, fun h => absurd rfl h⟩
end Go.Proofs.YtjahiohlekdhoaaDoor

namespace Go.Proofs.YtjahiohlekdhoaaDoor
open Go
set_option maxHeartbeats 4000000
set_option maxRecDepth 4000
attribute [local irreducible] SW SL SP RA Then FQ IQ LoopQ RQ AQ NX CutQ Exit.noGoto
attribute [local irreducible] CutE

theorem c_lawSlots (size tx disk : Int) : Ctr Tryd.prog GW 9 [vi size, vi tx, vi disk] [] [] (ret1 (vb true)) := by
  refine Ctr.intro Tryd.func9 (by kernel_rfl) rfl Tryd.ntmps9 rfl rfl rfl fun w' X => ?_
  refine sw_seq ?_
  refine sw_region ?_
  refine r_assign (k := ?_)
  refine sl_nil ?_
  refine sp_then ?_
  refine sw_seq ?_
  refine sw_seq ?_
  refine sw_region ?_
  refine r_move (k := ?_)
  refine r_lss (k := ?_)
  refine r_move (k := ?_)
  by_cases g0 : size < 32
  · refine r_re (t := 25) (v' := vb true) rfl (by rw [decide_eq_true g0]) ?_
    refine gd_no (k := ?_)
    refine gd_no (k := ?_)
    refine rd_pick_t (k := ?_)
    refine r_move (k := ?_)
    refine gd_no (k := ?_)
    refine gd_no (k := ?_)
    refine rd_pick_t (k := ?_)
    refine r_move (k := ?_)
    refine gd_no (k := ?_)
    refine gd_no (k := ?_)
    refine rd_pick_t (k := ?_)
    refine sl_nil ?_
    refine sp_then ?_
    refine swd_t (h := ?_)
    refine sw_seq ?_
    refine sw_region ?_
    refine r_call1 c_wakes12 (by exact rfl) (by exact rfl) (by exact rfl) (by simp) (by exact rfl) ?_
    refine r_assign (k := ?_)
    refine sl_nil ?_
    refine sp_then ?_
    refine sw_ret ?_
    refine sp_then_ret ?_
    refine sp_retv rfl rfl (.tmp rfl) rfl rfl ⟨rfl, rfl, rfl⟩ (by simp) rfl (by simp)
  refine r_re (t := 25) (v' := vb false) rfl (by rw [decide_eq_false g0]) ?_
  refine gd_yes (k := ?_)
  refine r_move (k := ?_)
  refine gd_yes (k := ?_)
  refine r_gtr (k := ?_)
  refine rd_pick_f (k := ?_)
  refine r_move (k := ?_)
  by_cases g1 : 64 < size
  · refine r_re (t := 29) (v' := vb true) rfl (by rw [decide_eq_true g1]) ?_
    refine gd_no (k := ?_)
    refine gd_no (k := ?_)
    refine rd_pick_t (k := ?_)
    refine r_move (k := ?_)
    refine gd_no (k := ?_)
    refine gd_no (k := ?_)
    refine rd_pick_t (k := ?_)
    refine sl_nil ?_
    refine sp_then ?_
    refine swd_t (h := ?_)
    refine sw_seq ?_
    refine sw_region ?_
    refine r_call1 c_wakes12 (by exact rfl) (by exact rfl) (by exact rfl) (by simp) (by exact rfl) ?_
    refine r_assign (k := ?_)
    refine sl_nil ?_
    refine sp_then ?_
    refine sw_ret ?_
    refine sp_then_ret ?_
    refine sp_retv rfl rfl (.tmp rfl) rfl rfl ⟨rfl, rfl, rfl⟩ (by simp) rfl (by simp)
  refine r_re (t := 29) (v' := vb false) rfl (by rw [decide_eq_false g1]) ?_
  refine gd_yes (k := ?_)
  refine r_move (k := ?_)
  refine gd_yes (k := ?_)
  refine r_lss (k := ?_)
  refine rd_pick_f (k := ?_)
  refine r_move (k := ?_)
  by_cases g2 : tx < 1
  · refine r_re (t := 33) (v' := vb true) rfl (by rw [decide_eq_true g2]) ?_
    refine gd_no (k := ?_)
    refine gd_no (k := ?_)
    refine rd_pick_t (k := ?_)
    refine sl_nil ?_
    refine sp_then ?_
    refine swd_t (h := ?_)
    refine sw_seq ?_
    refine sw_region ?_
    refine r_call1 c_wakes12 (by exact rfl) (by exact rfl) (by exact rfl) (by simp) (by exact rfl) ?_
    refine r_assign (k := ?_)
    refine sl_nil ?_
    refine sp_then ?_
    refine sw_ret ?_
    refine sp_then_ret ?_
    refine sp_retv rfl rfl (.tmp rfl) rfl rfl ⟨rfl, rfl, rfl⟩ (by simp) rfl (by simp)
  refine r_re (t := 33) (v' := vb false) rfl (by rw [decide_eq_false g2]) ?_
  refine gd_yes (k := ?_)
  refine r_move (k := ?_)
  refine gd_yes (k := ?_)
  refine r_gtr (k := ?_)
  refine rd_pick_f (k := ?_)
  refine sl_nil ?_
  refine sp_then ?_
  by_cases g3 : 1000 < tx
  · refine w_re (t := 36) (v' := vb true) rfl (by rw [decide_eq_true g3]) ?_
    refine swd_t (h := ?_)
    refine sw_seq ?_
    refine sw_region ?_
    refine r_call1 c_wakes12 (by exact rfl) (by exact rfl) (by exact rfl) (by simp) (by exact rfl) ?_
    refine r_assign (k := ?_)
    refine sl_nil ?_
    refine sp_then ?_
    refine sw_ret ?_
    refine sp_then_ret ?_
    refine sp_retv rfl rfl (.tmp rfl) rfl rfl ⟨rfl, rfl, rfl⟩ (by simp) rfl (by simp)
  refine w_re (t := 36) (v' := vb false) rfl (by rw [decide_eq_false g3]) ?_
  obtain ⟨n, rfl⟩ : ∃ n : Nat, size = (n : Int) := ⟨size.toNat, by omega⟩
  obtain ⟨j, rfl⟩ : ∃ j : Nat, tx = (j : Int) := ⟨tx.toNat, by omega⟩
  have hn0 : 32 ≤ n := by omega
  have hn1 : n ≤ 64 := by omega
  obtain ⟨t, et⟩ : ∃ t, t = UInt32.ofNat j := ⟨_, rfl⟩
  have ht : t.toNat = j := by rw [et]; simp; omega
  have hcv : IntKind.u32.wrap (j : Int) = (t.toNat : Int) := by rw [IntKind.wrap_u32, ht]; omega
  have ht0 : 0 < t.toNat := by omega
  have hrt : (plainA t (UInt16.ofNat n) 3 t).right = true := plain_right t n hn0 hn1 (by omega) (by omega)
  have het : (encV (plainA t (UInt16.ofNat n) 3 t)).2 = 0 := by unfold encV; rw [if_pos hrt]
  have h4 := mod4 t
  refine swd_f (h := ?_)
  refine sw_skip ?_
  refine sp_then ?_
  refine sw_seq ?_
  refine sw_region ?_
  refine r_move (k := ?_)
  refine r_andI1 (by exact rfl) (by exact rfl) (by exact rfl) ?_
  obtain ⟨k, hk⟩ : ∃ k : Bool, disk % 2 = ib k := by
    by_cases e : disk % 2 = 0
    · exact ⟨false, e⟩
    · exact ⟨true, by show disk % 2 = 1; omega⟩
  rw [hk]
  have hib : 0 ≤ ib k ∧ ib k ≤ 1 := by cases k <;> decide
  refine r_assign (k := ?_)
  refine sl_nil ?_
  refine sp_then ?_
  refine sw_seq ?_
  refine sw_region ?_
  refine r_move (k := ?_)
  refine r_callF (c_pair GW n hn0 hn1) (by exact rfl) (by exact rfl) (by exact rfl) (by simp) (by exact rfl) ?_
  rintro _ _ ⟨p0, rfl, ⟨ho0, ho1⟩, hp0, hp1, rfl⟩
  have hp : p0.holds n 0 fun _ => AncP.zero := ⟨ho0, ho1, by rw [hp0]; exact holds_fresh hn0 hn1, by rw [hp1]; exact holds_fresh hn0 hn1⟩
  have hc0 : p0.d0.cache.xs.length < 1000 := Nat.lt_of_le_of_lt hp.h0.cache (by decide)
  have hc1 : p0.d1.cache.xs.length < 1000 := Nat.lt_of_le_of_lt hp.h1.cache (by decide)
  refine r_move (k := ?_)
  refine r_cv (r := (t.toNat : Int)) (by exact ti rfl) (by exact ti rfl) (by exact rfl) hcv (by exact rfl) ?_
  refine r_move (k := ?_)
  refine r_call1 (c_plain3 GW t n hn1) (by exact rfl) (by exact rfl) (by exact rfl) (by simp) (by exact rfl) ?_
  refine f_have (φ := BS.nil.res) (fun V w _ i v hv => by simp [BS.nil, bv] at hv) ?_
  refine r_callF (c_rput p0 ho0 ho1 (by rw [hp.live]; decide) (plainA t (UInt16.ofNat n) 3 t) ⟨Nat.le_refl _, Nat.zero_le _⟩ hc0 hc1) (by exact rfl) (by exact rfl) (by exact rfl) (PhAll.all (by repeat' (first | trivial | exact .head _ | apply And.intro | apply List.Mem.tail))) (by exact rfl) ?_
  rintro _ _ ⟨o, rfl, ho, rfl⟩
  have hO : o.holds n 1 (oneT n t) := hp.put (by decide) _ hrt (plain_size t n hn1) ho
  have hOs : ∀ b, (o.get b).ok ∧ (o.get b).pure.holds n 1 (oneT n t) := fun b => by
    cases b
    · exact ⟨hO.o0, hO.h0⟩
    · exact ⟨hO.o1, hO.h1⟩
  rw [het]
  refine r_move (k := ?_)
  refine r_ext (k := ?_)
  refine r_ext (k := ?_)
  refine r_alloc (by exact z63) (by exact rfl) (by exact rfl) fun b7 => ?_
  refine r_store_all (k := ?_)
  refine r_assign (k := ?_)
  refine sl_nil ?_
  refine sp_then ?_
  refine sw_seq ?_
  refine sw_region ?_
  refine r_load_all (k := ?_)
  refine r_callF (c_slots o hO.o0 hO.o1) (by exact rfl) (by exact rfl) (by exact rfl) (PhAll.all (by repeat' (first | trivial | exact .head _ | apply And.intro | apply List.Mem.tail))) (by exact rfl) ?_
  rintro _ _ ⟨A, rfl, hA, -, rfl⟩
  obtain ⟨hA8, hS⟩ := hO.sym hA (one_an n t ht0)
  have hl : (ancsV A).length = 112 := by rw [ancsV_len, hA8]
  have hcnt := one_cnt ht0 fun b m hm => (hS b m hm).1
  refine r_alloc (v := .agg (ancsV (List.replicate 8 zeroA)).toArray) (by kernel_rfl) (cs := ancsV (List.replicate 8 zeroA)) rfl (by exact rfl) fun b9 => ?_
  refine r_store_all (cs := ancsV (List.replicate 8 zeroA)) (vs := ancsV A) (by exact tz rfl) (by exact rfl) (by exact rfl) (by iterate 24 (first | exact .hd | apply Upd.tl | skip)) rfl hl (ancsV_one A) rfl ?_
  refine sl_nil ?_
  refine sp_then ?_
  refine sw_seq ?_
  refine sw_region ?_
  refine r_assign (k := ?_)
  refine sl_nil ?_
  refine sp_then ?_
  refine sw_seq ?_
  refine sw_seq ?_
  refine sw_region ?_
  refine r_assign (k := ?_)
  refine sl_nil ?_
  refine sp_then ?_
  refine sw_block ?_
  refine sw_loop (ι := { i : Nat // i ≤ 2 }) (fun i => [(0, vi (n : Int)), (1, vi (j : Int)), (2, vi (ib k)), (7, .pointer (some ⟨b7, 0, none⟩)), (8, vi 0), (9, .pointer (some ⟨b9, 0, none⟩)), (10, vi (cntN (txL A) (i.1 * 4) : Nat)), (11, vi (i.1 : Int))])
    (fun _ => [.box b9 (ancsV A) 73, .box b7 o.cs 63]) (fun _ => [o.d0.rp, o.d0.rc, o.d0.rb, o.d1.rp, o.d1.rc, o.d1.rb, BS.nil.res]) (fun _ => []) (fun i => 2 - i.1) ⟨0, by omega⟩ ?_ fun i => ?_
  · exact Ent.mk' (by repeat' (first | trivial | exact rfl | apply And.intro)) (by repeat' (first | trivial | exact .head _ | apply And.intro | apply List.Mem.tail))
  obtain ⟨i, hi⟩ := i
  dsimp only
  refine sw_seq ?_
  refine sw_seq ?_
  refine sw_region ?_
  refine r_move (k := ?_)
  refine r_lss (k := ?_)
  refine sl_nil ?_
  refine sp_then ?_
  refine sw_cond rfl (fun h => ?_) (fun h => ?_)
  · have h := of_decide_eq_true h
    have hi' : i < 2 := by omega
    refine sw_skip ?_
    refine sp_then ?_
    refine sw_seq ?_
    refine sw_block ?_
    refine sw_seq ?_
    refine sw_region ?_
    refine r_assign (k := ?_)
    refine sl_nil ?_
    refine sp_then ?_
    refine sw_block ?_
    refine sw_loop (ι := { m : Nat // m ≤ 4 }) (fun m => [(0, vi (n : Int)), (1, vi (j : Int)), (2, vi (ib k)), (7, .pointer (some ⟨b7, 0, none⟩)), (8, vi 0), (9, .pointer (some ⟨b9, 0, none⟩)), (10, vi (cntN (txL A) (i * 4 + m.1) : Nat)), (11, vi (i : Int)), (12, vi (m.1 : Int))])
      (fun _ => [.box b9 (ancsV A) 73, .box b7 o.cs 63]) (fun _ => [o.d0.rp, o.d0.rc, o.d0.rb, o.d1.rp, o.d1.rc, o.d1.rb, BS.nil.res]) (fun _ => []) (fun m => 4 - m.1) ⟨0, by omega⟩ ?_ fun m => ?_
    · exact Ent.mk' (by repeat' (first | trivial | exact rfl | apply And.intro)) (by repeat' (first | trivial | exact .head _ | apply And.intro | apply List.Mem.tail))
    obtain ⟨m, hm⟩ := m
    dsimp only
    have hcl := cntN_le (txL A) (i * 4 + m)
    refine sw_seq ?_
    refine sw_seq ?_
    refine sw_region ?_
    refine r_move (k := ?_)
    refine r_lss (k := ?_)
    refine sl_nil ?_
    refine sp_then ?_
    refine sw_cond rfl (fun h => ?_) (fun h => ?_)
    · have h := of_decide_eq_true h
      have hm' : m < 4 := by omega
      have hj : i * 4 + m < A.length := by omega
      have hld : (ancsV A)[0 + i * 56 + m * 14 + 0]? = some (.int .u32 (txL A (i * 4 + m) : Int)) := by
        rw [show 0 + i * 56 + m * 14 + 0 = (i * 4 + m) * 14 by omega, ancsV_tx A _ hj]
        simp [txL, List.getD, hj]
      refine sw_skip ?_
      refine sp_then ?_
      refine sw_seq ?_
      refine sw_block ?_
      refine sw_seq ?_
      refine sw_region ?_
      refine r_move (k := ?_)
      refine r_move (k := ?_)
      refine r_idx_arr (k := ?_)
      refine r_idx_arr (k := ?_)
      refine r_fieldAddr (k := ?_)
      refine r_load_one (v := .int .u32 (txL A (i * 4 + m) : Int)) (by exact tz rfl) (by exact rfl) (by iterate 24 (first | exact .head _ | apply List.Mem.tail | skip)) hld (by exact rfl) ?_
      refine r_gtr (k := ?_)
      refine sl_nil ?_
      refine sp_then ?_
      by_cases hz : 0 < txL A (i * 4 + m)
      · have e : cntN (txL A) (i * 4 + (m + 1)) = cntN (txL A) (i * 4 + m) + 1 := by rw [← Nat.add_assoc, cntN, if_pos hz]
        refine w_re (t := 66) (v' := vb true) rfl (by simp; omega) ?_
        refine swd_t (h := ?_)
        refine sw_region ?_
        refine r_move (k := ?_)
        refine r_add64 (k := ?_)
        refine r_assign (k := ?_)
        refine sl_nil ?_
        refine sp_block ?_
        refine sp_then ?_
        refine sw_region ?_
        refine r_move (k := ?_)
        refine r_add64 (k := ?_)
        refine r_assign (k := ?_)
        refine sl_nil ?_
        refine sp_re (t := 10) (v' := vi (cntN (txL A) (i * 4 + (m + 1)) : Nat)) rfl (by rw [e]; rfl) ?_
        refine sp_loop (ι := { m : Nat // m ≤ 4 }) ⟨m + 1, by omega⟩ ?_ ?_
        · dsimp only; omega
        · exact Ent.mk' (by repeat' (first | trivial | exact rfl | apply And.intro)) (by repeat' (first | trivial | exact .head _ | apply And.intro | apply List.Mem.tail))
      · have e : cntN (txL A) (i * 4 + (m + 1)) = cntN (txL A) (i * 4 + m) := by rw [← Nat.add_assoc, cntN, if_neg hz]; rfl
        refine w_re (t := 66) (v' := vb false) rfl (by simp; omega) ?_
        refine swd_f (h := ?_)
        refine sw_skip ?_
        refine sp_block ?_
        refine sp_then ?_
        refine sw_region ?_
        refine r_move (k := ?_)
        refine r_add64 (k := ?_)
        refine r_assign (k := ?_)
        refine sl_nil ?_
        refine sp_re (t := 10) (v' := vi (cntN (txL A) (i * 4 + (m + 1)) : Nat)) rfl (by rw [e]) ?_
        refine sp_loop (ι := { m : Nat // m ≤ 4 }) ⟨m + 1, by omega⟩ ?_ ?_
        · dsimp only; omega
        · exact Ent.mk' (by repeat' (first | trivial | exact rfl | apply And.intro)) (by repeat' (first | trivial | exact .head _ | apply And.intro | apply List.Mem.tail))
    · have h := of_decide_eq_false h
      obtain rfl : m = 4 := by omega
      refine sw_exit ?_
      refine sp_then_exit ?_
      refine sp_loop_exit ?_
      refine sp_block_exit ?_
      refine sp_block ?_
      refine sp_then ?_
      refine sw_region ?_
      refine r_move (k := ?_)
      refine r_add64 (k := ?_)
      refine r_assign (k := ?_)
      refine sl_nil ?_
      refine sp_re (t := 10) (v' := vi (cntN (txL A) ((i + 1) * 4) : Nat)) rfl (by rw [show (i + 1) * 4 = i * 4 + 4 by omega]) ?_
      refine sp_loop (ι := { i : Nat // i ≤ 2 }) ⟨i + 1, by omega⟩ ?_ ?_
      · dsimp only; omega
      · exact Ent.mk' (by repeat' (first | trivial | exact rfl | apply And.intro)) (by repeat' (first | trivial | exact .head _ | apply And.intro | apply List.Mem.tail))
  have h := of_decide_eq_false h
  obtain rfl : i = 2 := by omega
  rw [show cntN (txL A) (2 * 4) = 2 from hcnt]
  refine sw_exit ?_
  refine sp_then_exit ?_
  refine sp_loop_exit ?_
  refine sp_block_exit ?_
  refine sp_then ?_
  refine sw_seq ?_
  refine sw_region ?_
  refine r_move (k := ?_)
  refine r_cv (r := (t.toNat : Int)) (by exact ti rfl) (by exact ti rfl) (by exact rfl) hcv (by exact rfl) ?_
  refine r_call1 (c_r9slot GW t) (by exact rfl) (by exact rfl) (by exact rfl) (by simp) (by exact rfl) ?_
  refine r_assign (k := ?_)
  refine sl_nil ?_
  refine sp_then ?_
  refine sw_seq ?_
  refine sw_seq ?_
  refine sw_region ?_
  refine r_move (k := ?_)
  refine r_neq (k := ?_)
  refine r_move (k := ?_)
  refine r_re (t := 74) (v' := vb false) rfl rfl ?_
  refine gd_yes (k := ?_)
  refine r_move (k := ?_)
  refine gd_yes (k := ?_)
  refine r_neq (k := ?_)
  refine rd_pick_f (k := ?_)
  refine r_move (k := ?_)
  refine r_re (t := 78) (v' := vb false) rfl rfl ?_
  refine gd_yes (k := ?_)
  refine r_move (k := ?_)
  refine gd_yes (k := ?_)
  refine r_move (k := ?_)
  refine gd_yes (k := ?_)
  refine r_idx_arr (k := ?_)
  refine gd_yes (k := ?_)
  refine r_idx_arr (k := ?_)
  refine gd_yes (k := ?_)
  refine r_fieldAddr (k := ?_)
  refine gd_yes (k := ?_)
  obtain ⟨m, em⟩ : ∃ m, m = (t % 4).toNat := ⟨_, rfl⟩
  rw [← em] at h4 ⊢
  have ha : ∀ b, (ancsV A)[0 + (ib b).toNat * 56 + m * 14 + 0]? = some (v32 (atA A b m).tx) := fun b => by
    rw [show 0 + (ib b).toNat * 56 + m * 14 + 0 = (bN b * 4 + m) * 14 by cases b <;> simp [ib, bN] <;> omega, ancsV_tx A (bN b * 4 + m) (by cases b <;> simp [bN] <;> omega)]
    simp [atA, List.getD, show bN b * 4 + m < A.length by cases b <;> simp [bN] <;> omega]
  have hat : ∀ b, (atA A b m).tx.toNat = t.toNat := fun b => (hS b m h4).1.trans (if_pos em)
  refine r_load_one (v := v32 (atA A k m).tx) (by exact tz rfl) (by exact rfl) (by iterate 24 (first | exact .head _ | apply List.Mem.tail | skip)) (ha k) (by exact rfl) ?_
  refine gd_yes (k := ?_)
  refine r_move (k := ?_)
  refine gd_yes (k := ?_)
  refine r_cv (r := (t.toNat : Int)) (by exact ti rfl) (by exact ti rfl) (by exact rfl) hcv (by exact rfl) ?_
  refine gd_yes (k := ?_)
  refine r_neq (k := ?_)
  refine rd_pick_f (k := ?_)
  refine sl_nil ?_
  refine sp_then ?_
  refine w_re (t := 88) (v' := vb false) rfl (by simp [hat]) ?_
  refine swd_f (h := ?_)
  refine sw_skip ?_
  refine sp_then ?_
  refine sw_seq ?_
  refine sw_thenE (ι := Nat × Nat) (fun b => [(0, vi (n : Int)), (1, vi (j : Int)), (2, vi (ib k)), (7, .pointer (some ⟨b7, 0, none⟩)), (13, vi (m : Int)), (14, .pointer (some ⟨b.1, 0, none⟩)), (15, .pointer (some ⟨b.2, 0, none⟩))])
    (fun b => [.box b.1 o.cs 63, .box b.2 o.cs 63, .box b9 (ancsV A) 73, .box b7 o.cs 63]) (fun _ => [o.d0.rp, o.d0.rc, o.d0.rb, o.d1.rp, o.d1.rc, o.d1.rb, BS.nil.res]) [] ?_ fun b => ?_
  · 
    refine sw_draw [(none, .box b7 o.cs 63)] [] [0, 1, 2, 3, 4, 5] mix (by kernel_rfl) rfl ?_
    refine ra_first 0 [(none, .box b7 o.cs 63)] [1, 2, 3, 4, 5] (hq := by first | exact q_load_one | exact q_load_all | exact q_load_fr1 | exact q_load_fr) (k := ?_)
    refine ra_first 1 [(none, .box b7 o.cs 63)] [2, 3, 4, 5] (hq := by first | exact q_load_one | exact q_load_all | exact q_load_fr1 | exact q_load_fr) (k := ?_)
    refine ra2 (i := 2) (j := 3) [3, 4, 5] [2, 4, 5] (by kernel_rfl) rfl rfl rfl rfl ?_ ?_
    · 
      refine r_alloc (by exact z63) (by exact rfl) (by exact rfl) fun b14 => ?_
      refine sl_nil ?_
      refine sp_nx (k := ?_)
      refine ra1 (i := 3) [4, 5] (h := ?_)
      refine r_alloc (by exact z63) (by exact rfl) (by exact rfl) fun b15 => ?_
      refine sl_nil ?_
      refine sp_nx (k := ?_)
      refine ra1 (i := 4) [5] (h := ?_)
      refine r_store_all (k := ?_)
      refine sl_nil ?_
      refine sp_nx (k := ?_)
      refine ra1 (i := 5) [] (h := ?_)
      refine r_store_all (k := ?_)
      refine sl_nil ?_
      refine sp_nx (k := ?_)
      refine ra_done ?_
      refine sp_pull 1 rfl ?_
      exact sp_cutE (b14, b15) (by repeat' (first | trivial | exact rfl | apply And.intro)) (by repeat' (first | trivial | exact .head _ | apply And.intro | apply List.Mem.tail)) rfl
    · 
      refine r_alloc (by exact z63) (by exact rfl) (by exact rfl) fun b15 => ?_
      refine sl_nil ?_
      refine sp_nx (k := ?_)
      refine ra1 (i := 2) [4, 5] (h := ?_)
      refine r_alloc (by exact z63) (by exact rfl) (by exact rfl) fun b14 => ?_
      refine sl_nil ?_
      refine sp_nx (k := ?_)
      refine ra1 (i := 4) [5] (h := ?_)
      refine r_store_all (k := ?_)
      refine sl_nil ?_
      refine sp_nx (k := ?_)
      refine ra1 (i := 5) [] (h := ?_)
      refine r_store_all (k := ?_)
      refine sl_nil ?_
      refine sp_nx (k := ?_)
      refine ra_done ?_
      exact sp_cutE (b14, b15) (by repeat' (first | trivial | exact rfl | apply And.intro)) (by repeat' (first | trivial | exact .head _ | apply And.intro | apply List.Mem.tail)) rfl
  obtain ⟨b14, b15⟩ := b
  dsimp only
  have hgo : ∀ φ ∈ [(o.get k).rp, (o.get k).rc, (o.get k).rb], φ ∈ [o.d0.rp, o.d0.rc, o.d0.rb, o.d1.rp, o.d1.rc, o.d1.rb, BS.nil.res] := by
    cases k
    · exact (PhAll.all (by repeat' (first | trivial | exact .head _ | apply And.intro | apply List.Mem.tail)))
    · exact (PhAll.all (by repeat' (first | trivial | exact .head _ | apply And.intro | apply List.Mem.tail)))
  have hog : part' o.cs (0 + 0 + (ib k).toNat * 4) 4 = (o.get k).cs := by cases k <;> rfl
  have hoo : (o.get k).off = false := (hOs k).2.off
  have hob : (o.get k).bad.xs = [] := (hOs k).2.bad
  refine sw_seq ?_
  refine sw_region ?_
  refine r_move (k := ?_)
  refine r_move (k := ?_)
  refine r_fieldAddr (k := ?_)
  refine r_idx_arr (k := ?_)
  refine r_load_agg (vs := (o.get k).cs) (by exact tz rfl) (by exact rfl) (by iterate 24 (first | exact .head _ | apply List.Mem.tail | skip)) hog rfl (by exact rfl) ?_
  refine r_callF (c_flushed GW (o.get k) (hOs k).1 hoo hob) (by exact rfl) (by exact rfl) (by exact rfl) hgo (by exact rfl) ?_
  rintro _ _ ⟨x, rfl, hx, hxp, rfl⟩
  refine r_callF (c_detach GW x hx) (by exact rfl) (by exact rfl) (by exact rfl) (fun φ h => List.mem_append_left _ h) (by exact rfl) ?_
  rintro _ _ ⟨y, rfl, hy, hyp, rfl⟩
  refine r_fieldAddr (k := ?_)
  refine r_idx_arr (k := ?_)
  refine r_store (vs := y.cs) (cs' := (o.set k y).cs) (by exact tz rfl) (by exact rfl) (by exact rfl) (by iterate 24 (first | exact .hd | apply Upd.tl | skip)) rfl rfl rfl (by cases k <;> exact Nat.le_of_ble_eq_true rfl) (by cases k <;> rfl) ?_
  refine f_set [y.rp, y.rc, y.rb, o.d0.rp, o.d0.rc, o.d0.rb, o.d1.rp, o.d1.rc, o.d1.rb, BS.nil.res] (fun V w hw φ hφ => hw φ ((PhAll.all (by repeat' (first | trivial | exact .head _ | apply And.intro | apply List.Mem.tail))) φ hφ)) ?_
  have hgo2 : ∀ φ ∈ [(o.get k).rp, (o.get k).rc, (o.get k).rb], φ ∈ [y.rp, y.rc, y.rb, o.d0.rp, o.d0.rc, o.d0.rb, o.d1.rp, o.d1.rc, o.d1.rb, BS.nil.res] := fun φ h => .tail _ (.tail _ (.tail _ (hgo φ h)))
  refine sl_nil ?_
  refine sp_then ?_
  refine sw_seq ?_
  refine sw_region ?_
  refine r_move (k := ?_)
  refine r_fieldAddr (k := ?_)
  refine r_idx_arr (k := ?_)
  refine r_load_agg (vs := (o.get k).cs) (by exact tz rfl) (by exact rfl) (by iterate 24 (first | exact .head _ | apply List.Mem.tail | skip)) hog rfl (by exact rfl) ?_
  refine r_callF (c_flushed GW (o.get k) (hOs k).1 hoo hob) (by exact rfl) (by exact rfl) (by exact rfl) hgo2 (by exact rfl) ?_
  rintro _ _ ⟨x2, rfl, hx2, hxp2, rfl⟩
  have hn2 : m < x2.pages.xs.length := by
    have := hx2.f.n0
    have e : x2.pages.xs = x2.pure.pages := rfl
    rw [e]; omega
  refine r_move (k := ?_)
  refine r_callF (c_spoil GW x2 hx2 (congrArg DiskP.bad hxp2) m hn2) (by exact rfl) (by exact rfl) (by exact rfl) (fun φ h => List.mem_append_left _ h) (by exact rfl) ?_
  rintro _ _ ⟨z, rfl, hz, hzp, rfl⟩
  refine r_move (k := ?_)
  refine r_ext (k := ?_)
  refine r_ext (k := ?_)
  refine r_alloc (by exact z60) (by exact rfl) (by exact rfl) fun b16 => ?_
  refine r_store_all (k := ?_)
  refine r_assign (k := ?_)
  refine sl_nil ?_
  refine sp_then ?_
  refine sw_seq ?_
  refine sw_region ?_
  refine r_move (k := ?_)
  refine r_load_all (k := ?_)
  refine r_fieldAddr (k := ?_)
  refine r_idx_arr (k := ?_)
  refine r_store (vs := z.cs) (cs' := (o.set k z).cs) (by exact tz rfl) (by exact rfl) (by exact rfl) (by iterate 24 (first | exact .hd | apply Upd.tl | skip)) rfl rfl rfl (by cases k <;> exact Nat.le_of_ble_eq_true rfl) (by cases k <;> rfl) ?_
  obtain ⟨O, eO⟩ : ∃ O, O = o.set k y := ⟨_, rfl⟩
  obtain ⟨W, eW⟩ : ∃ W, W = o.set k z := ⟨_, rfl⟩
  refine f_set [O.d0.rp, O.d0.rc, O.d0.rb, O.d1.rp, O.d1.rc, O.d1.rb, W.d0.rp, W.d0.rc, W.d0.rb, W.d1.rp, W.d1.rc, W.d1.rb, BS.nil.res] (fun V w hw φ hφ => hw φ ?_) ?_
  · subst eO eW
    cases k
    · exact (PhAll.all (by repeat' (first | trivial | exact .head _ | apply And.intro | apply List.Mem.tail))) φ hφ
    · exact (PhAll.all (by repeat' (first | trivial | exact .head _ | apply And.intro | apply List.Mem.tail))) φ hφ
  rw [← eO, ← eW]
  have hOk : ∀ b, (O.get b).ok := both k (by rw [eO, get_set]; exact hy) (by rw [eO, get_set_not']; exact (hOs _).1)
  have hWk : ∀ b, (W.get b).ok := both k (by rw [eW, get_set]; exact hz) (by rw [eW, get_set_not']; exact (hOs _).1)
  have hOz : (O.get k).pure.slot m = AncP.zero := by rw [eO, get_set, hyp]; exact slot_off rfl m
  have hWz : (W.get k).pure.slot m = AncP.zero := by rw [eW, get_set, hzp]; exact slot_spoilt (by rw [hxp2]; rfl) m
  have hWt : ((W.get (!k)).pure.slot m).tx.toNat = t.toNat := by
    rw [eW, get_set_not', (hOs _).2.slot m h4]
    unfold oneT
    rw [if_pos em]; rfl
  refine sl_nil ?_
  refine sp_then ?_
  refine sw_seq ?_
  refine sw_region ?_
  refine r_move (k := ?_)
  refine r_callF (c_pair GW n hn0 hn1) (by exact rfl) (by exact rfl) (by exact rfl) (by simp) (by exact rfl) ?_
  rintro _ _ ⟨p1, rfl, ⟨ho2, ho3⟩, hp2, hp3, rfl⟩
  have hpf : ∀ b, (p1.get b).pure = DiskP.fresh n := fun b => by cases b; exact hp2; exact hp3
  have hq : p1.holds n 0 fun _ => AncP.zero := ⟨ho2, ho3, by rw [hp2]; exact holds_fresh hn0 hn1, by rw [hp3]; exact holds_fresh hn0 hn1⟩
  have hc2 : p1.d0.cache.xs.length < 1000 := Nat.lt_of_le_of_lt hq.h0.cache (by decide)
  have hc3 : p1.d1.cache.xs.length < 1000 := Nat.lt_of_le_of_lt hq.h1.cache (by decide)
  refine r_move (k := ?_)
  refine r_cv (r := (t.toNat : Int)) (by exact ti rfl) (by exact ti rfl) (by exact rfl) hcv (by exact rfl) ?_
  refine r_move (k := ?_)
  refine r_sub64 (k := ?_)
  refine r_re (t := 120) (v' := vi ((n - 1 : Nat) : Int)) rfl (by rw [show ((n - 1 : Nat) : Int) = (n : Int) - 1 by omega]) ?_
  refine r_call1 (c_plain3 GW t (n - 1) (by omega)) (by exact rfl) (by exact rfl) (by exact rfl) (by simp) (by exact rfl) ?_
  obtain ⟨a', ea'⟩ : ∃ a', a' = plainA t (UInt16.ofNat (n - 1)) 3 t := ⟨_, rfl⟩
  have hsz : ¬ a'.size.toNat = n := by rw [ea', plain_size t (n - 1) (by omega)]; omega
  have hak : a'.mark.key.ok := by rw [ea']; exact ⟨Nat.le_refl _, Nat.zero_le _⟩
  rw [← ea']
  refine f_have (φ := a'.mark.key.res) (fun V w _ => by rw [ea']; exact nil_res) ?_
  refine r_callF (c_rput p1 ho2 ho3 (by rw [hq.live]; decide) a' hak hc2 hc3) (by exact rfl) (by exact rfl) (by exact rfl) (PhAll.all (by repeat' (first | trivial | exact .head _ | apply And.intro | apply List.Mem.tail))) (by exact rfl) ?_
  rintro _ _ ⟨o2, rfl, ho2', rfl⟩
  refine r_move (k := ?_)
  refine r_ext (k := ?_)
  refine r_ext (k := ?_)
  refine r_alloc (by exact z63) (by exact rfl) (by exact rfl) fun b18 => ?_
  refine r_store_all (k := ?_)
  refine r_assign (k := ?_)
  refine sl_nil ?_
  refine sp_then ?_
  refine sw_seq ?_
  refine sw_region ?_
  refine r_load_all (k := ?_)
  refine r_callF (c_newestR o2 ho2'.o0 ho2'.o1) (by exact rfl) (by exact rfl) (by exact rfl) (PhAll.all (by repeat' (first | trivial | exact .head _ | apply And.intro | apply List.Mem.tail))) (by exact rfl) ?_
  rintro _ _ ⟨A2, a2, rfl, hA2, hak2, -, rfl⟩
  have hfz := (holds_fresh hn0 hn1)
  obtain ⟨hA28, hS2⟩ := none_sym (p := o2) (fun b q hq4 => by
    rw [(ho2'.get b).2, hpf b]
    exact slot_wrong (fun q hq => hfz.slot q hq) rfl a' (by rw [hfz.len]; exact hsz) hq4) hA2
  have f1 : newE (liveN o2) (NSt.all A2) = 120 := by rw [newE_sym (by rw [ho2'.live, hq.live]; decide) hA28 hS2]; rfl
  rw [f1]
  refine r_move (k := ?_)
  refine r_ext (k := ?_)
  refine r_ext (k := ?_)
  refine r_ext (k := ?_)
  refine r_alloc (by exact z32) (cs := zeroA.cs) (by kernel_rfl) (by exact rfl) fun b20 => ?_
  refine r_store_all (cs := zeroA.cs) (vs := a2.cs) (by exact tz rfl) (by exact rfl) (by exact rfl) (by iterate 24 (first | exact .hd | apply Upd.tl | skip)) rfl rfl rfl rfl ?_
  refine r_assign (k := ?_)
  refine r_assign (k := ?_)
  refine sl_nil ?_
  refine sp_then ?_
  refine sw_seq ?_
  refine sw_region ?_
  refine r_load_all (k := ?_)
  refine r_callF (c_slots O (hOk false) (hOk true)) (by exact rfl) (by exact rfl) (by exact rfl) (PhAll.all (by repeat' (first | trivial | exact .head _ | apply And.intro | apply List.Mem.tail))) (by exact rfl) ?_
  rintro _ _ ⟨A3, rfl, hA3, -, rfl⟩
  have hA38 : A3.length = 8 := by have := congrArg List.length hA3; simpa using this
  have e3 : (atA A3 k m).tx.toNat = 0 := by
    have e := at_get hA3 k h4
    rw [hOz] at e
    rw [show (atA A3 k m).tx = 0 from congrArg AncP.tx e]; rfl
  refine r_move (k := ?_)
  refine r_indexA (vs := ancsV (half A3 k)) (i := bN k) (by exact ta rfl) (by exact tz rfl) (by exact rfl) (by exact rfl) hib.1 (by omega) (by cases k <;> rfl) (half_row hA38 k) (by rw [ancsV_len, half_len hA38]) (by exact rfl) ?_
  refine r_move (k := ?_)
  refine r_indexA (vs := (atA A3 k m).cs) (i := m) (by exact ta rfl) (by exact tz rfl) (by exact rfl) (by exact rfl) (by omega) (by omega) (Int.toNat_natCast m) (half_at hA38 k h4) rfl (by exact rfl) ?_
  refine r_field1 (k := ?_)
  refine r_eql (k := ?_)
  refine r_move (k := ?_)
  refine r_re (t := 139) (v' := vb true) rfl (by simp [e3]) ?_
  refine gd_yes (k := ?_)
  refine r_load_all (k := ?_)
  refine gd_yes (k := ?_)
  refine r_callF (c_slots W (hWk false) (hWk true)) (by exact rfl) (by exact rfl) (by exact rfl) (PhAll.all (by repeat' (first | trivial | exact .head _ | apply And.intro | apply List.Mem.tail))) (by exact rfl) ?_
  rintro _ _ ⟨A4, rfl, hA4, -, rfl⟩
  have hA48 : A4.length = 8 := by have := congrArg List.length hA4; simpa using this
  have e4 : (atA A4 k m).tx.toNat = 0 := by
    have e := at_get hA4 k h4
    rw [hWz] at e
    rw [show (atA A4 k m).tx = 0 from congrArg AncP.tx e]; rfl
  refine gd_yes (k := ?_)
  refine r_move (k := ?_)
  refine gd_yes (k := ?_)
  refine r_indexA (vs := ancsV (half A4 k)) (i := bN k) (by exact ta rfl) (by exact tz rfl) (by exact rfl) (by exact rfl) hib.1 (by omega) (by cases k <;> rfl) (half_row hA48 k) (by rw [ancsV_len, half_len hA48]) (by exact rfl) ?_
  refine gd_yes (k := ?_)
  refine r_move (k := ?_)
  refine gd_yes (k := ?_)
  refine r_indexA (vs := (atA A4 k m).cs) (i := m) (by exact ta rfl) (by exact tz rfl) (by exact rfl) (by exact rfl) (by omega) (by omega) (Int.toNat_natCast m) (half_at hA48 k h4) rfl (by exact rfl) ?_
  refine gd_yes (k := ?_)
  refine r_field1 (k := ?_)
  refine gd_yes (k := ?_)
  refine r_eql (k := ?_)
  refine rd_pick_t (k := ?_)
  refine r_move (k := ?_)
  refine r_re (t := 149) (v' := vb true) rfl (by simp [e4]) ?_
  refine gd_yes (k := ?_)
  refine r_load_all (k := ?_)
  refine gd_yes (k := ?_)
  refine r_callF (c_slots W (hWk false) (hWk true)) (by exact rfl) (by exact rfl) (by exact rfl) (PhAll.all (by repeat' (first | trivial | exact .head _ | apply And.intro | apply List.Mem.tail))) (by exact rfl) ?_
  rintro _ _ ⟨A5, rfl, hA5, -, rfl⟩
  have hA58 : A5.length = 8 := by have := congrArg List.length hA5; simpa using this
  have e5 : (atA A5 (!k) m).tx.toNat = t.toNat := by
    have e := at_get hA5 (!k) h4
    rw [show (atA A5 (!k) m).tx = ((W.get (!k)).pure.slot m).tx from congrArg AncP.tx e]; exact hWt
  refine gd_yes (k := ?_)
  refine r_move (k := ?_)
  refine gd_yes (k := ?_)
  refine r_sub64 (k := ?_)
  refine gd_yes (k := ?_)
  refine r_indexA (vs := ancsV (half A5 (!k))) (i := bN (!k)) (by exact ta rfl) (by exact tz rfl) (by exact rfl) (by exact rfl) (by omega) (by omega) (by cases k <;> rfl) (half_row hA58 (!k)) (by rw [ancsV_len, half_len hA58]) (by exact rfl) ?_
  refine gd_yes (k := ?_)
  refine r_move (k := ?_)
  refine gd_yes (k := ?_)
  refine r_indexA (vs := (atA A5 (!k) m).cs) (i := m) (by exact ta rfl) (by exact tz rfl) (by exact rfl) (by exact rfl) (by omega) (by omega) (Int.toNat_natCast m) (half_at hA58 (!k) h4) rfl (by exact rfl) ?_
  refine gd_yes (k := ?_)
  refine r_field1 (k := ?_)
  refine gd_yes (k := ?_)
  refine r_move (k := ?_)
  refine gd_yes (k := ?_)
  refine r_cv (r := (t.toNat : Int)) (by exact ti rfl) (by exact ti rfl) (by exact rfl) hcv (by exact rfl) ?_
  refine gd_yes (k := ?_)
  refine r_eql (k := ?_)
  refine rd_pick_t (k := ?_)
  refine r_move (k := ?_)
  refine r_re (t := 162) (v' := vb true) rfl (by simp [e5]) ?_
  refine gd_yes (k := ?_)
  refine r_move (k := ?_)
  refine gd_yes (k := ?_)
  refine r_neq (k := ?_)
  refine gd_yes (k := ?_)
  refine r_move (k := ?_)
  rcases encV_or a' with he | he
  · refine r_re (t := 165) (v' := vb false) rfl (by simp [he]) ?_
    refine gd_yes (k := ?_)
    refine r_move (k := ?_)
    refine gd_yes (k := ?_)
    refine r_eql (k := ?_)
    refine gd_yes (k := ?_)
    refine rd_pick_f (k := ?_)
    refine rd_pick_t (k := ?_)
    refine r_move (k := ?_)
    refine r_re (t := 170) (v' := vb true) rfl rfl ?_
    refine gd_yes (k := ?_)
    refine r_call1 c_wakes12 (by exact rfl) (by exact rfl) (by exact rfl) (by simp) (by exact rfl) ?_
    refine rd_pick_t (k := ?_)
    refine r_assign (k := ?_)
    refine sl_nil ?_
    refine sp_then ?_
    refine sw_ret ?_
    refine sp_retv rfl rfl (.tmp rfl) rfl rfl ⟨rfl, rfl, rfl⟩ (by simp) rfl (by simp)
  · refine r_re (t := 165) (v' := vb true) rfl (by simp [he]) ?_
    refine gd_no (k := ?_)
    refine gd_no (k := ?_)
    refine gd_yes (k := ?_)
    refine rd_pick_t (k := ?_)
    refine rd_pick_t (k := ?_)
    refine r_move (k := ?_)
    refine gd_yes (k := ?_)
    refine r_call1 c_wakes12 (by exact rfl) (by exact rfl) (by exact rfl) (by simp) (by exact rfl) ?_
    refine rd_pick_t (k := ?_)
    refine r_assign (k := ?_)
    refine sl_nil ?_
    refine sp_then ?_
    refine sw_ret ?_
    refine sp_retv rfl rfl (.tmp rfl) rfl rfl ⟨rfl, rfl, rfl⟩ (by simp) rfl (by simp)
end Go.Proofs.YtjahiohlekdhoaaDoor
