/-
  The walk of sutureref03.Copy.
  The walks of sutureref03: which disks may be, flushed ones (of disks that are attached and have no bad page).
  The walk of sutureref04.Spoil, of a disk that has no bad page.
  Rings, plain: what RingSlots asks.
  The walk of ring.Renew, of disk 1.
  Rings, plain: what RingSplit asks; the walk of its anchors.
-/
import Derived.Test.YtjahiohlekdhoaaDoorRingSplitM8
import Derived.Test.YtjahiohlekdhoaaDoorRingSplitM7
namespace Go.Proofs.YtjahiohlekdhoaaDoor
open Go
set_option maxHeartbeats 4000000
set_option maxRecDepth 4000
attribute [local irreducible] SW SL SP RA Then FQ IQ LoopQ RQ AQ NX CutQ Exit.noGoto
attribute [local irreducible] CutE

theorem built_disk {v1 v2 v3 : Value} (h1 : v1.cells = #[v1]) (h2 : v2.cells = #[v2]) (h3 : v3.cells = #[v3]) {b : Bool} : Tryd.prog.built 60 [(0, v1), (1, v2), (2, v3), (3, vb b)] = some [v1, v2, v3, vb b].toArray := by
  have h : ∀ ps, Tryd.prog.built 60 ps = Instr.fill (#[(0, 1), (1, 1), (2, 1), (3, 1)][·]?) [Value.slice none 0 0, .slice none 0 0, .slice none 0 0, vb false].toArray ps := fun ps => by kernel_rfl
  rw [h, fill_cons (off := 0) (sz := 1) (vs := [v1]) rfl h1 rfl (by simp), fill_cons (off := 1) (sz := 1) (vs := [v2]) rfl h2 rfl (by simp [splice]), fill_cons (off := 2) (sz := 1) (vs := [v3]) rfl h3 rfl (by simp [splice]), fill_cons (off := 3) (sz := 1) (vs := [vb b]) rfl rfl rfl (by simp [splice]), Instr.fill]
  simp [splice]
theorem c_r3copy (G : Res) (d : DiskV) (hd : d.ok) : Ctr Tryd.prog G 98 [d.v] [] [d.rp, d.rc, d.rb] (retDisk d.pure) := by
  have hpl : (pgsV d.pages.xs).length = d.pages.xs.length * 256 := pgsV_len hd.f
  have hn1 : d.pages.xs.length ≤ 64 := hd.f.n1
  have hcl : (wrsV d.cache.xs).length = d.cache.xs.length * 257 := wrsV_len hd.f
  have hc : d.cache.xs.length ≤ 1000 := hd.f.c
  have hbl : (isV d.bad.xs).length = d.bad.xs.length := isV_len d.bad.xs
  have hb1 : d.bad.xs.length ≤ 1 := bad_len hd.f
  refine Ctr.intro Tryd.func98 (by kernel_rfl) rfl Tryd.ntmps98 rfl rfl rfl fun w' X => ?_
  refine sw_seq ?_
  refine sw_region ?_
  refine r_box (cs := d.cs) (by exact rfl) rfl (by exact rfl) fun b1 => ?_
  refine r_alloc (by exact z60) (by exact rfl) (by exact rfl) fun b2 => ?_
  refine sl_nil ?_
  refine sp_then ?_
  refine sw_seq ?_
  refine sw_thenE (ι := { v : Value × Value × Value // one v.1 ∧ one v.2.1 ∧ one v.2.2 }) (fun _ => [(2, .pointer (some ⟨b2, 0, none⟩))]) (fun v => [.row v.1.2.2 d.bad.xs.length (isV d.bad.xs) 3 1, .row v.1.2.1 d.cache.xs.length (wrsV d.cache.xs) 147 257, .row v.1.1 d.pages.xs.length (pgsV d.pages.xs) 37 256, .box b2 [v.1.1, v.1.2.1, v.1.2.2, vb d.off] 60, .box b1 d.cs 60]) (fun _ => []) [] ?_ fun v => ?_
  · 
    refine sw_draw [(none, .box b1 d.cs 60)] [d.rp, d.rc, d.rb] [0, 1, 2, 3, 4, 5, 6, 7, 8, 9, 10, 11, 12, 13, 14, 15] mix (by kernel_rfl) rfl ?_
    refine ra_first 1 [] [0, 2, 3, 4, 5, 6, 7, 8, 9, 10, 11, 12, 13, 14, 15] (hq := by exact q_fieldAddr) (k := ?_)
    refine ra_first 2 [(none, .box b1 d.cs 60)] [0, 3, 4, 5, 6, 7, 8, 9, 10, 11, 12, 13, 14, 15] (hq := by first | exact q_load_one | exact q_load_all | exact q_load_fr1 | exact q_load_fr) (k := ?_)
    refine ra_first 5 [] [0, 3, 4, 6, 7, 8, 9, 10, 11, 12, 13, 14, 15] (hq := by exact q_fieldAddr) (k := ?_)
    refine ra_first 6 [(none, .box b1 d.cs 60)] [0, 3, 4, 7, 8, 9, 10, 11, 12, 13, 14, 15] (hq := by first | exact q_load_one | exact q_load_all | exact q_load_fr1 | exact q_load_fr) (k := ?_)
    refine ra_first 9 [] [0, 3, 4, 7, 8, 10, 11, 12, 13, 14, 15] (hq := by exact q_fieldAddr) (k := ?_)
    refine ra_first 10 [(none, .box b1 d.cs 60)] [0, 3, 4, 7, 8, 11, 12, 13, 14, 15] (hq := by first | exact q_load_one | exact q_load_all | exact q_load_fr1 | exact q_load_fr) (k := ?_)
    refine ra_first 12 [] [0, 3, 4, 7, 8, 11, 13, 14, 15] (hq := by exact q_fieldAddr) (k := ?_)
    refine ra_first 13 [(none, .box b1 d.cs 60)] [0, 3, 4, 7, 8, 11, 14, 15] (hq := by first | exact q_load_one | exact q_load_all | exact q_load_fr1 | exact q_load_fr) (k := ?_)
    refine ra3 (i := 0) (j := 4) (k := 8) [3, 4, 7, 8, 11, 14, 15] [0, 3, 7, 8, 11, 14, 15] [0, 3, 4, 7, 11, 14, 15] (by kernel_rfl) rfl rfl rfl rfl rfl rfl ?_ ?_ ?_
    · 
      refine r_lit (vs := []) (xs := []) (cells := []) (by exact tl rfl) (by exact z37) rfl rfl (by simp) (by simp) (by simp) (by exact rfl) (by exact rfl) (by exact rfl) fun l0 => ?_
      refine sl_nil ?_
      refine sp_nx (k := ?_)
      refine ra3 (i := 3) (j := 4) (k := 8) [4, 7, 8, 11, 14, 15] [3, 7, 8, 11, 14, 15] [3, 4, 7, 11, 14, 15] (by kernel_rfl) rfl rfl rfl rfl rfl rfl ?_ ?_ ?_
      · 
        refine r_append (n := 0) (xs := []) (mm := d.pages.xs.length) (news := pgsV d.pages.xs) (by exact tl rfl) (by exact z37) (by kernel_rfl) rfl (by exact rfl) (by exact rfl) (by iterate 24 (first | exact .head _ | apply List.Mem.tail | skip)) hpl (pgsV_one _) (by omega) (by omega) (by exact rfl) fun v1 h1 g1 => ?_
        dsimp only [pull, push, two, List.drop, List.take, List.cons_append, List.nil_append]
        refine sl_nil ?_
        refine sp_nx (k := ?_)
        refine ra2 (i := 4) (j := 8) [7, 8, 11, 14, 15] [4, 7, 11, 14, 15] (by kernel_rfl) rfl rfl rfl rfl ?_ ?_
        · 
          refine r_lit (vs := []) (xs := []) (cells := []) (by exact tl rfl) (by exact z147) rfl rfl (by simp) (by simp) (by simp) (by exact rfl) (by exact rfl) (by exact rfl) fun l4 => ?_
          refine sl_nil ?_
          refine sp_nx (k := ?_)
          refine ra2 (i := 7) (j := 8) [8, 11, 14, 15] [7, 11, 14, 15] (by kernel_rfl) rfl rfl rfl rfl ?_ ?_
          · 
            refine r_append (n := 0) (xs := []) (mm := d.cache.xs.length) (news := wrsV d.cache.xs) (by exact tl rfl) (by exact z147) (by kernel_rfl) rfl (by exact rfl) (by exact rfl) (by iterate 24 (first | exact .head _ | apply List.Mem.tail | skip)) hcl (wrsV_one _) (by omega) (by omega) (by exact rfl) fun v2 h2 g2 => ?_
            dsimp only [pull, push, two, List.drop, List.take, List.cons_append, List.nil_append]
            refine sl_nil ?_
            refine sp_nx (k := ?_)
            refine ra1 (i := 8) [11, 14, 15] (h := ?_)
            refine r_lit (vs := []) (xs := []) (cells := []) (by exact tl rfl) (by exact z3) rfl rfl (by simp) (by simp) (by simp) (by exact rfl) (by exact rfl) (by exact rfl) fun l8 => ?_
            refine sl_nil ?_
            refine sp_nx (k := ?_)
            refine ra1 (i := 11) [14, 15] (h := ?_)
            refine r_append (n := 0) (xs := []) (mm := d.bad.xs.length) (news := isV d.bad.xs) (by exact tl rfl) (by exact z3) (by kernel_rfl) rfl (by exact rfl) (by exact rfl) (by iterate 24 (first | exact .head _ | apply List.Mem.tail | skip)) (by rw [hbl, Nat.mul_one]) (isV_one _) (by omega) (by omega) (by exact rfl) fun v3 h3 g3 => ?_
            dsimp only [pull, push, two, List.drop, List.take, List.cons_append, List.nil_append]
            refine sl_nil ?_
            refine sp_nx (k := ?_)
            refine ra1 (i := 14) [15] (h := ?_)
            refine r_buildP [v1, v2, v3, vb d.off] (parts := [(0, .tmp 6), (1, .tmp 10), (2, .tmp 14), (3, .tmp 16)]) (by exact rfl) (by rw [built_disk h1 h2 h3]) (by exact rfl) ?_
            refine sl_nil ?_
            refine sp_nx (k := ?_)
            refine ra1 (i := 15) [] (h := ?_)
            refine r_store_all (cs := [.slice none 0 0, .slice none 0 0, .slice none 0 0, vb false]) (vs := [v1, v2, v3, vb d.off]) (by exact tz rfl) (by exact rfl) (by exact rfl) (by iterate 24 (first | exact .hd | apply Upd.tl | skip)) rfl rfl (by rw [List.all_cons, g1, List.all_cons, g2, List.all_cons, g3]; rfl) rfl ?_
            refine sl_nil ?_
            refine sp_nx (k := ?_)
            refine ra_done ?_
            exact sp_cutE ⟨(v1, v2, v3), ⟨h1, g1⟩, ⟨h2, g2⟩, ⟨h3, g3⟩⟩ (by repeat' (first | trivial | exact rfl | apply And.intro)) (by repeat' (first | trivial | exact .head _ | apply And.intro | apply List.Mem.tail)) (by simp only [Nat.zero_add])
          · 
            refine r_lit (vs := []) (xs := []) (cells := []) (by exact tl rfl) (by exact z3) rfl rfl (by simp) (by simp) (by simp) (by exact rfl) (by exact rfl) (by exact rfl) fun l8 => ?_
            refine sl_nil ?_
            refine sp_nx (k := ?_)
            refine ra1 (i := 7) [11, 14, 15] (h := ?_)
            refine o_pull 1 rfl ?_
            refine r_append (n := 0) (xs := []) (mm := d.cache.xs.length) (news := wrsV d.cache.xs) (by exact tl rfl) (by exact z147) (by kernel_rfl) rfl (by exact rfl) (by exact rfl) (by iterate 24 (first | exact .head _ | apply List.Mem.tail | skip)) hcl (wrsV_one _) (by omega) (by omega) (by exact rfl) fun v2 h2 g2 => ?_
            dsimp only [pull, push, two, List.drop, List.take, List.cons_append, List.nil_append]
            refine sl_nil ?_
            refine sp_nx (k := ?_)
            refine ra1 (i := 11) [14, 15] (h := ?_)
            refine o_pull 1 rfl ?_
            refine r_append (n := 0) (xs := []) (mm := d.bad.xs.length) (news := isV d.bad.xs) (by exact tl rfl) (by exact z3) (by kernel_rfl) rfl (by exact rfl) (by exact rfl) (by iterate 24 (first | exact .head _ | apply List.Mem.tail | skip)) (by rw [hbl, Nat.mul_one]) (isV_one _) (by omega) (by omega) (by exact rfl) fun v3 h3 g3 => ?_
            dsimp only [pull, push, two, List.drop, List.take, List.cons_append, List.nil_append]
            refine sl_nil ?_
            refine sp_nx (k := ?_)
            refine ra1 (i := 14) [15] (h := ?_)
            refine r_buildP [v1, v2, v3, vb d.off] (parts := [(0, .tmp 6), (1, .tmp 10), (2, .tmp 14), (3, .tmp 16)]) (by exact rfl) (by rw [built_disk h1 h2 h3]) (by exact rfl) ?_
            refine sl_nil ?_
            refine sp_nx (k := ?_)
            refine ra1 (i := 15) [] (h := ?_)
            refine r_store_all (cs := [.slice none 0 0, .slice none 0 0, .slice none 0 0, vb false]) (vs := [v1, v2, v3, vb d.off]) (by exact tz rfl) (by exact rfl) (by exact rfl) (by iterate 24 (first | exact .hd | apply Upd.tl | skip)) rfl rfl (by rw [List.all_cons, g1, List.all_cons, g2, List.all_cons, g3]; rfl) rfl ?_
            refine sl_nil ?_
            refine sp_nx (k := ?_)
            refine ra_done ?_
            exact sp_cutE ⟨(v1, v2, v3), ⟨h1, g1⟩, ⟨h2, g2⟩, ⟨h3, g3⟩⟩ (by repeat' (first | trivial | exact rfl | apply And.intro)) (by repeat' (first | trivial | exact .head _ | apply And.intro | apply List.Mem.tail)) (by simp only [Nat.zero_add])
        · 
          refine r_lit (vs := []) (xs := []) (cells := []) (by exact tl rfl) (by exact z3) rfl rfl (by simp) (by simp) (by simp) (by exact rfl) (by exact rfl) (by exact rfl) fun l8 => ?_
          refine sl_nil ?_
          refine sp_nx (k := ?_)
          refine ra1 (i := 4) [7, 11, 14, 15] (h := ?_)
          refine r_lit (vs := []) (xs := []) (cells := []) (by exact tl rfl) (by exact z147) rfl rfl (by simp) (by simp) (by simp) (by exact rfl) (by exact rfl) (by exact rfl) fun l4 => ?_
          refine sl_nil ?_
          refine sp_nx (k := ?_)
          refine ra1 (i := 7) [11, 14, 15] (h := ?_)
          refine r_append (n := 0) (xs := []) (mm := d.cache.xs.length) (news := wrsV d.cache.xs) (by exact tl rfl) (by exact z147) (by kernel_rfl) rfl (by exact rfl) (by exact rfl) (by iterate 24 (first | exact .head _ | apply List.Mem.tail | skip)) hcl (wrsV_one _) (by omega) (by omega) (by exact rfl) fun v2 h2 g2 => ?_
          dsimp only [pull, push, two, List.drop, List.take, List.cons_append, List.nil_append]
          refine sl_nil ?_
          refine sp_nx (k := ?_)
          refine ra1 (i := 11) [14, 15] (h := ?_)
          refine o_pull 1 rfl ?_
          refine r_append (n := 0) (xs := []) (mm := d.bad.xs.length) (news := isV d.bad.xs) (by exact tl rfl) (by exact z3) (by kernel_rfl) rfl (by exact rfl) (by exact rfl) (by iterate 24 (first | exact .head _ | apply List.Mem.tail | skip)) (by rw [hbl, Nat.mul_one]) (isV_one _) (by omega) (by omega) (by exact rfl) fun v3 h3 g3 => ?_
          dsimp only [pull, push, two, List.drop, List.take, List.cons_append, List.nil_append]
          refine sl_nil ?_
          refine sp_nx (k := ?_)
          refine ra1 (i := 14) [15] (h := ?_)
          refine r_buildP [v1, v2, v3, vb d.off] (parts := [(0, .tmp 6), (1, .tmp 10), (2, .tmp 14), (3, .tmp 16)]) (by exact rfl) (by rw [built_disk h1 h2 h3]) (by exact rfl) ?_
          refine sl_nil ?_
          refine sp_nx (k := ?_)
          refine ra1 (i := 15) [] (h := ?_)
          refine r_store_all (cs := [.slice none 0 0, .slice none 0 0, .slice none 0 0, vb false]) (vs := [v1, v2, v3, vb d.off]) (by exact tz rfl) (by exact rfl) (by exact rfl) (by iterate 24 (first | exact .hd | apply Upd.tl | skip)) rfl rfl (by rw [List.all_cons, g1, List.all_cons, g2, List.all_cons, g3]; rfl) rfl ?_
          refine sl_nil ?_
          refine sp_nx (k := ?_)
          refine ra_done ?_
          exact sp_cutE ⟨(v1, v2, v3), ⟨h1, g1⟩, ⟨h2, g2⟩, ⟨h3, g3⟩⟩ (by repeat' (first | trivial | exact rfl | apply And.intro)) (by repeat' (first | trivial | exact .head _ | apply And.intro | apply List.Mem.tail)) (by simp only [Nat.zero_add])
      · 
        refine r_lit (vs := []) (xs := []) (cells := []) (by exact tl rfl) (by exact z147) rfl rfl (by simp) (by simp) (by simp) (by exact rfl) (by exact rfl) (by exact rfl) fun l4 => ?_
        refine sl_nil ?_
        refine sp_nx (k := ?_)
        refine ra2 (i := 3) (j := 8) [7, 8, 11, 14, 15] [3, 7, 11, 14, 15] (by kernel_rfl) rfl rfl rfl rfl ?_ ?_
        · 
          refine o_pull 1 rfl ?_
          refine r_append (n := 0) (xs := []) (mm := d.pages.xs.length) (news := pgsV d.pages.xs) (by exact tl rfl) (by exact z37) (by kernel_rfl) rfl (by exact rfl) (by exact rfl) (by iterate 24 (first | exact .head _ | apply List.Mem.tail | skip)) hpl (pgsV_one _) (by omega) (by omega) (by exact rfl) fun v1 h1 g1 => ?_
          dsimp only [pull, push, two, List.drop, List.take, List.cons_append, List.nil_append]
          refine sl_nil ?_
          refine sp_nx (k := ?_)
          refine ra2 (i := 7) (j := 8) [8, 11, 14, 15] [7, 11, 14, 15] (by kernel_rfl) rfl rfl rfl rfl ?_ ?_
          · 
            refine o_pull 1 rfl ?_
            refine r_append (n := 0) (xs := []) (mm := d.cache.xs.length) (news := wrsV d.cache.xs) (by exact tl rfl) (by exact z147) (by kernel_rfl) rfl (by exact rfl) (by exact rfl) (by iterate 24 (first | exact .head _ | apply List.Mem.tail | skip)) hcl (wrsV_one _) (by omega) (by omega) (by exact rfl) fun v2 h2 g2 => ?_
            dsimp only [pull, push, two, List.drop, List.take, List.cons_append, List.nil_append]
            refine sl_nil ?_
            refine sp_nx (k := ?_)
            refine ra1 (i := 8) [11, 14, 15] (h := ?_)
            refine r_lit (vs := []) (xs := []) (cells := []) (by exact tl rfl) (by exact z3) rfl rfl (by simp) (by simp) (by simp) (by exact rfl) (by exact rfl) (by exact rfl) fun l8 => ?_
            refine sl_nil ?_
            refine sp_nx (k := ?_)
            refine ra1 (i := 11) [14, 15] (h := ?_)
            refine r_append (n := 0) (xs := []) (mm := d.bad.xs.length) (news := isV d.bad.xs) (by exact tl rfl) (by exact z3) (by kernel_rfl) rfl (by exact rfl) (by exact rfl) (by iterate 24 (first | exact .head _ | apply List.Mem.tail | skip)) (by rw [hbl, Nat.mul_one]) (isV_one _) (by omega) (by omega) (by exact rfl) fun v3 h3 g3 => ?_
            dsimp only [pull, push, two, List.drop, List.take, List.cons_append, List.nil_append]
            refine sl_nil ?_
            refine sp_nx (k := ?_)
            refine ra1 (i := 14) [15] (h := ?_)
            refine r_buildP [v1, v2, v3, vb d.off] (parts := [(0, .tmp 6), (1, .tmp 10), (2, .tmp 14), (3, .tmp 16)]) (by exact rfl) (by rw [built_disk h1 h2 h3]) (by exact rfl) ?_
            refine sl_nil ?_
            refine sp_nx (k := ?_)
            refine ra1 (i := 15) [] (h := ?_)
            refine r_store_all (cs := [.slice none 0 0, .slice none 0 0, .slice none 0 0, vb false]) (vs := [v1, v2, v3, vb d.off]) (by exact tz rfl) (by exact rfl) (by exact rfl) (by iterate 24 (first | exact .hd | apply Upd.tl | skip)) rfl rfl (by rw [List.all_cons, g1, List.all_cons, g2, List.all_cons, g3]; rfl) rfl ?_
            refine sl_nil ?_
            refine sp_nx (k := ?_)
            refine ra_done ?_
            exact sp_cutE ⟨(v1, v2, v3), ⟨h1, g1⟩, ⟨h2, g2⟩, ⟨h3, g3⟩⟩ (by repeat' (first | trivial | exact rfl | apply And.intro)) (by repeat' (first | trivial | exact .head _ | apply And.intro | apply List.Mem.tail)) (by simp only [Nat.zero_add])
          · 
            refine r_lit (vs := []) (xs := []) (cells := []) (by exact tl rfl) (by exact z3) rfl rfl (by simp) (by simp) (by simp) (by exact rfl) (by exact rfl) (by exact rfl) fun l8 => ?_
            refine sl_nil ?_
            refine sp_nx (k := ?_)
            refine ra1 (i := 7) [11, 14, 15] (h := ?_)
            refine o_pull 2 rfl ?_
            refine r_append (n := 0) (xs := []) (mm := d.cache.xs.length) (news := wrsV d.cache.xs) (by exact tl rfl) (by exact z147) (by kernel_rfl) rfl (by exact rfl) (by exact rfl) (by iterate 24 (first | exact .head _ | apply List.Mem.tail | skip)) hcl (wrsV_one _) (by omega) (by omega) (by exact rfl) fun v2 h2 g2 => ?_
            dsimp only [pull, push, two, List.drop, List.take, List.cons_append, List.nil_append]
            refine sl_nil ?_
            refine sp_nx (k := ?_)
            refine ra1 (i := 11) [14, 15] (h := ?_)
            refine o_pull 1 rfl ?_
            refine r_append (n := 0) (xs := []) (mm := d.bad.xs.length) (news := isV d.bad.xs) (by exact tl rfl) (by exact z3) (by kernel_rfl) rfl (by exact rfl) (by exact rfl) (by iterate 24 (first | exact .head _ | apply List.Mem.tail | skip)) (by rw [hbl, Nat.mul_one]) (isV_one _) (by omega) (by omega) (by exact rfl) fun v3 h3 g3 => ?_
            dsimp only [pull, push, two, List.drop, List.take, List.cons_append, List.nil_append]
            refine sl_nil ?_
            refine sp_nx (k := ?_)
            refine ra1 (i := 14) [15] (h := ?_)
            refine r_buildP [v1, v2, v3, vb d.off] (parts := [(0, .tmp 6), (1, .tmp 10), (2, .tmp 14), (3, .tmp 16)]) (by exact rfl) (by rw [built_disk h1 h2 h3]) (by exact rfl) ?_
            refine sl_nil ?_
            refine sp_nx (k := ?_)
            refine ra1 (i := 15) [] (h := ?_)
            refine r_store_all (cs := [.slice none 0 0, .slice none 0 0, .slice none 0 0, vb false]) (vs := [v1, v2, v3, vb d.off]) (by exact tz rfl) (by exact rfl) (by exact rfl) (by iterate 24 (first | exact .hd | apply Upd.tl | skip)) rfl rfl (by rw [List.all_cons, g1, List.all_cons, g2, List.all_cons, g3]; rfl) rfl ?_
            refine sl_nil ?_
            refine sp_nx (k := ?_)
            refine ra_done ?_
            exact sp_cutE ⟨(v1, v2, v3), ⟨h1, g1⟩, ⟨h2, g2⟩, ⟨h3, g3⟩⟩ (by repeat' (first | trivial | exact rfl | apply And.intro)) (by repeat' (first | trivial | exact .head _ | apply And.intro | apply List.Mem.tail)) (by simp only [Nat.zero_add])
        · 
          refine r_lit (vs := []) (xs := []) (cells := []) (by exact tl rfl) (by exact z3) rfl rfl (by simp) (by simp) (by simp) (by exact rfl) (by exact rfl) (by exact rfl) fun l8 => ?_
          refine sl_nil ?_
          refine sp_nx (k := ?_)
          refine ra1 (i := 3) [7, 11, 14, 15] (h := ?_)
          refine o_pull 2 rfl ?_
          refine r_append (n := 0) (xs := []) (mm := d.pages.xs.length) (news := pgsV d.pages.xs) (by exact tl rfl) (by exact z37) (by kernel_rfl) rfl (by exact rfl) (by exact rfl) (by iterate 24 (first | exact .head _ | apply List.Mem.tail | skip)) hpl (pgsV_one _) (by omega) (by omega) (by exact rfl) fun v1 h1 g1 => ?_
          dsimp only [pull, push, two, List.drop, List.take, List.cons_append, List.nil_append]
          refine sl_nil ?_
          refine sp_nx (k := ?_)
          refine ra1 (i := 7) [11, 14, 15] (h := ?_)
          refine o_pull 2 rfl ?_
          refine r_append (n := 0) (xs := []) (mm := d.cache.xs.length) (news := wrsV d.cache.xs) (by exact tl rfl) (by exact z147) (by kernel_rfl) rfl (by exact rfl) (by exact rfl) (by iterate 24 (first | exact .head _ | apply List.Mem.tail | skip)) hcl (wrsV_one _) (by omega) (by omega) (by exact rfl) fun v2 h2 g2 => ?_
          dsimp only [pull, push, two, List.drop, List.take, List.cons_append, List.nil_append]
          refine sl_nil ?_
          refine sp_nx (k := ?_)
          refine ra1 (i := 11) [14, 15] (h := ?_)
          refine o_pull 2 rfl ?_
          refine r_append (n := 0) (xs := []) (mm := d.bad.xs.length) (news := isV d.bad.xs) (by exact tl rfl) (by exact z3) (by kernel_rfl) rfl (by exact rfl) (by exact rfl) (by iterate 24 (first | exact .head _ | apply List.Mem.tail | skip)) (by rw [hbl, Nat.mul_one]) (isV_one _) (by omega) (by omega) (by exact rfl) fun v3 h3 g3 => ?_
          dsimp only [pull, push, two, List.drop, List.take, List.cons_append, List.nil_append]
          refine sl_nil ?_
          refine sp_nx (k := ?_)
          refine ra1 (i := 14) [15] (h := ?_)
          refine r_buildP [v1, v2, v3, vb d.off] (parts := [(0, .tmp 6), (1, .tmp 10), (2, .tmp 14), (3, .tmp 16)]) (by exact rfl) (by rw [built_disk h1 h2 h3]) (by exact rfl) ?_
          refine sl_nil ?_
          refine sp_nx (k := ?_)
          refine ra1 (i := 15) [] (h := ?_)
          refine r_store_all (cs := [.slice none 0 0, .slice none 0 0, .slice none 0 0, vb false]) (vs := [v1, v2, v3, vb d.off]) (by exact tz rfl) (by exact rfl) (by exact rfl) (by iterate 24 (first | exact .hd | apply Upd.tl | skip)) rfl rfl (by rw [List.all_cons, g1, List.all_cons, g2, List.all_cons, g3]; rfl) rfl ?_
          refine sl_nil ?_
          refine sp_nx (k := ?_)
          refine ra_done ?_
          exact sp_cutE ⟨(v1, v2, v3), ⟨h1, g1⟩, ⟨h2, g2⟩, ⟨h3, g3⟩⟩ (by repeat' (first | trivial | exact rfl | apply And.intro)) (by repeat' (first | trivial | exact .head _ | apply And.intro | apply List.Mem.tail)) (by simp only [Nat.zero_add])
      · 
        refine r_lit (vs := []) (xs := []) (cells := []) (by exact tl rfl) (by exact z3) rfl rfl (by simp) (by simp) (by simp) (by exact rfl) (by exact rfl) (by exact rfl) fun l8 => ?_
        refine sl_nil ?_
        refine sp_nx (k := ?_)
        refine ra2 (i := 3) (j := 4) [4, 7, 11, 14, 15] [3, 7, 11, 14, 15] (by kernel_rfl) rfl rfl rfl rfl ?_ ?_
        · 
          refine o_pull 1 rfl ?_
          refine r_append (n := 0) (xs := []) (mm := d.pages.xs.length) (news := pgsV d.pages.xs) (by exact tl rfl) (by exact z37) (by kernel_rfl) rfl (by exact rfl) (by exact rfl) (by iterate 24 (first | exact .head _ | apply List.Mem.tail | skip)) hpl (pgsV_one _) (by omega) (by omega) (by exact rfl) fun v1 h1 g1 => ?_
          dsimp only [pull, push, two, List.drop, List.take, List.cons_append, List.nil_append]
          refine sl_nil ?_
          refine sp_nx (k := ?_)
          refine ra1 (i := 4) [7, 11, 14, 15] (h := ?_)
          refine r_lit (vs := []) (xs := []) (cells := []) (by exact tl rfl) (by exact z147) rfl rfl (by simp) (by simp) (by simp) (by exact rfl) (by exact rfl) (by exact rfl) fun l4 => ?_
          refine sl_nil ?_
          refine sp_nx (k := ?_)
          refine ra1 (i := 7) [11, 14, 15] (h := ?_)
          refine r_append (n := 0) (xs := []) (mm := d.cache.xs.length) (news := wrsV d.cache.xs) (by exact tl rfl) (by exact z147) (by kernel_rfl) rfl (by exact rfl) (by exact rfl) (by iterate 24 (first | exact .head _ | apply List.Mem.tail | skip)) hcl (wrsV_one _) (by omega) (by omega) (by exact rfl) fun v2 h2 g2 => ?_
          dsimp only [pull, push, two, List.drop, List.take, List.cons_append, List.nil_append]
          refine sl_nil ?_
          refine sp_nx (k := ?_)
          refine ra1 (i := 11) [14, 15] (h := ?_)
          refine o_pull 2 rfl ?_
          refine r_append (n := 0) (xs := []) (mm := d.bad.xs.length) (news := isV d.bad.xs) (by exact tl rfl) (by exact z3) (by kernel_rfl) rfl (by exact rfl) (by exact rfl) (by iterate 24 (first | exact .head _ | apply List.Mem.tail | skip)) (by rw [hbl, Nat.mul_one]) (isV_one _) (by omega) (by omega) (by exact rfl) fun v3 h3 g3 => ?_
          dsimp only [pull, push, two, List.drop, List.take, List.cons_append, List.nil_append]
          refine sl_nil ?_
          refine sp_nx (k := ?_)
          refine ra1 (i := 14) [15] (h := ?_)
          refine r_buildP [v1, v2, v3, vb d.off] (parts := [(0, .tmp 6), (1, .tmp 10), (2, .tmp 14), (3, .tmp 16)]) (by exact rfl) (by rw [built_disk h1 h2 h3]) (by exact rfl) ?_
          refine sl_nil ?_
          refine sp_nx (k := ?_)
          refine ra1 (i := 15) [] (h := ?_)
          refine r_store_all (cs := [.slice none 0 0, .slice none 0 0, .slice none 0 0, vb false]) (vs := [v1, v2, v3, vb d.off]) (by exact tz rfl) (by exact rfl) (by exact rfl) (by iterate 24 (first | exact .hd | apply Upd.tl | skip)) rfl rfl (by rw [List.all_cons, g1, List.all_cons, g2, List.all_cons, g3]; rfl) rfl ?_
          refine sl_nil ?_
          refine sp_nx (k := ?_)
          refine ra_done ?_
          exact sp_cutE ⟨(v1, v2, v3), ⟨h1, g1⟩, ⟨h2, g2⟩, ⟨h3, g3⟩⟩ (by repeat' (first | trivial | exact rfl | apply And.intro)) (by repeat' (first | trivial | exact .head _ | apply And.intro | apply List.Mem.tail)) (by simp only [Nat.zero_add])
        · 
          refine r_lit (vs := []) (xs := []) (cells := []) (by exact tl rfl) (by exact z147) rfl rfl (by simp) (by simp) (by simp) (by exact rfl) (by exact rfl) (by exact rfl) fun l4 => ?_
          refine sl_nil ?_
          refine sp_nx (k := ?_)
          refine ra1 (i := 3) [7, 11, 14, 15] (h := ?_)
          refine o_pull 2 rfl ?_
          refine r_append (n := 0) (xs := []) (mm := d.pages.xs.length) (news := pgsV d.pages.xs) (by exact tl rfl) (by exact z37) (by kernel_rfl) rfl (by exact rfl) (by exact rfl) (by iterate 24 (first | exact .head _ | apply List.Mem.tail | skip)) hpl (pgsV_one _) (by omega) (by omega) (by exact rfl) fun v1 h1 g1 => ?_
          dsimp only [pull, push, two, List.drop, List.take, List.cons_append, List.nil_append]
          refine sl_nil ?_
          refine sp_nx (k := ?_)
          refine ra1 (i := 7) [11, 14, 15] (h := ?_)
          refine o_pull 1 rfl ?_
          refine r_append (n := 0) (xs := []) (mm := d.cache.xs.length) (news := wrsV d.cache.xs) (by exact tl rfl) (by exact z147) (by kernel_rfl) rfl (by exact rfl) (by exact rfl) (by iterate 24 (first | exact .head _ | apply List.Mem.tail | skip)) hcl (wrsV_one _) (by omega) (by omega) (by exact rfl) fun v2 h2 g2 => ?_
          dsimp only [pull, push, two, List.drop, List.take, List.cons_append, List.nil_append]
          refine sl_nil ?_
          refine sp_nx (k := ?_)
          refine ra1 (i := 11) [14, 15] (h := ?_)
          refine o_pull 2 rfl ?_
          refine r_append (n := 0) (xs := []) (mm := d.bad.xs.length) (news := isV d.bad.xs) (by exact tl rfl) (by exact z3) (by kernel_rfl) rfl (by exact rfl) (by exact rfl) (by iterate 24 (first | exact .head _ | apply List.Mem.tail | skip)) (by rw [hbl, Nat.mul_one]) (isV_one _) (by omega) (by omega) (by exact rfl) fun v3 h3 g3 => ?_
          dsimp only [pull, push, two, List.drop, List.take, List.cons_append, List.nil_append]
          refine sl_nil ?_
          refine sp_nx (k := ?_)
          refine ra1 (i := 14) [15] (h := ?_)
          refine r_buildP [v1, v2, v3, vb d.off] (parts := [(0, .tmp 6), (1, .tmp 10), (2, .tmp 14), (3, .tmp 16)]) (by exact rfl) (by rw [built_disk h1 h2 h3]) (by exact rfl) ?_
          refine sl_nil ?_
          refine sp_nx (k := ?_)
          refine ra1 (i := 15) [] (h := ?_)
          refine r_store_all (cs := [.slice none 0 0, .slice none 0 0, .slice none 0 0, vb false]) (vs := [v1, v2, v3, vb d.off]) (by exact tz rfl) (by exact rfl) (by exact rfl) (by iterate 24 (first | exact .hd | apply Upd.tl | skip)) rfl rfl (by rw [List.all_cons, g1, List.all_cons, g2, List.all_cons, g3]; rfl) rfl ?_
          refine sl_nil ?_
          refine sp_nx (k := ?_)
          refine ra_done ?_
          exact sp_cutE ⟨(v1, v2, v3), ⟨h1, g1⟩, ⟨h2, g2⟩, ⟨h3, g3⟩⟩ (by repeat' (first | trivial | exact rfl | apply And.intro)) (by repeat' (first | trivial | exact .head _ | apply And.intro | apply List.Mem.tail)) (by simp only [Nat.zero_add])
    · 
      refine r_lit (vs := []) (xs := []) (cells := []) (by exact tl rfl) (by exact z147) rfl rfl (by simp) (by simp) (by simp) (by exact rfl) (by exact rfl) (by exact rfl) fun l4 => ?_
      refine sl_nil ?_
      refine sp_nx (k := ?_)
      refine ra2 (i := 0) (j := 8) [3, 7, 8, 11, 14, 15] [0, 3, 7, 11, 14, 15] (by kernel_rfl) rfl rfl rfl rfl ?_ ?_
      · 
        refine r_lit (vs := []) (xs := []) (cells := []) (by exact tl rfl) (by exact z37) rfl rfl (by simp) (by simp) (by simp) (by exact rfl) (by exact rfl) (by exact rfl) fun l0 => ?_
        refine sl_nil ?_
        refine sp_nx (k := ?_)
        refine ra2 (i := 3) (j := 8) [7, 8, 11, 14, 15] [3, 7, 11, 14, 15] (by kernel_rfl) rfl rfl rfl rfl ?_ ?_
        · 
          refine r_append (n := 0) (xs := []) (mm := d.pages.xs.length) (news := pgsV d.pages.xs) (by exact tl rfl) (by exact z37) (by kernel_rfl) rfl (by exact rfl) (by exact rfl) (by iterate 24 (first | exact .head _ | apply List.Mem.tail | skip)) hpl (pgsV_one _) (by omega) (by omega) (by exact rfl) fun v1 h1 g1 => ?_
          dsimp only [pull, push, two, List.drop, List.take, List.cons_append, List.nil_append]
          refine sl_nil ?_
          refine sp_nx (k := ?_)
          refine ra2 (i := 7) (j := 8) [8, 11, 14, 15] [7, 11, 14, 15] (by kernel_rfl) rfl rfl rfl rfl ?_ ?_
          · 
            refine o_pull 1 rfl ?_
            refine r_append (n := 0) (xs := []) (mm := d.cache.xs.length) (news := wrsV d.cache.xs) (by exact tl rfl) (by exact z147) (by kernel_rfl) rfl (by exact rfl) (by exact rfl) (by iterate 24 (first | exact .head _ | apply List.Mem.tail | skip)) hcl (wrsV_one _) (by omega) (by omega) (by exact rfl) fun v2 h2 g2 => ?_
            dsimp only [pull, push, two, List.drop, List.take, List.cons_append, List.nil_append]
            refine sl_nil ?_
            refine sp_nx (k := ?_)
            refine ra1 (i := 8) [11, 14, 15] (h := ?_)
            refine r_lit (vs := []) (xs := []) (cells := []) (by exact tl rfl) (by exact z3) rfl rfl (by simp) (by simp) (by simp) (by exact rfl) (by exact rfl) (by exact rfl) fun l8 => ?_
            refine sl_nil ?_
            refine sp_nx (k := ?_)
            refine ra1 (i := 11) [14, 15] (h := ?_)
            refine r_append (n := 0) (xs := []) (mm := d.bad.xs.length) (news := isV d.bad.xs) (by exact tl rfl) (by exact z3) (by kernel_rfl) rfl (by exact rfl) (by exact rfl) (by iterate 24 (first | exact .head _ | apply List.Mem.tail | skip)) (by rw [hbl, Nat.mul_one]) (isV_one _) (by omega) (by omega) (by exact rfl) fun v3 h3 g3 => ?_
            dsimp only [pull, push, two, List.drop, List.take, List.cons_append, List.nil_append]
            refine sl_nil ?_
            refine sp_nx (k := ?_)
            refine ra1 (i := 14) [15] (h := ?_)
            refine r_buildP [v1, v2, v3, vb d.off] (parts := [(0, .tmp 6), (1, .tmp 10), (2, .tmp 14), (3, .tmp 16)]) (by exact rfl) (by rw [built_disk h1 h2 h3]) (by exact rfl) ?_
            refine sl_nil ?_
            refine sp_nx (k := ?_)
            refine ra1 (i := 15) [] (h := ?_)
            refine r_store_all (cs := [.slice none 0 0, .slice none 0 0, .slice none 0 0, vb false]) (vs := [v1, v2, v3, vb d.off]) (by exact tz rfl) (by exact rfl) (by exact rfl) (by iterate 24 (first | exact .hd | apply Upd.tl | skip)) rfl rfl (by rw [List.all_cons, g1, List.all_cons, g2, List.all_cons, g3]; rfl) rfl ?_
            refine sl_nil ?_
            refine sp_nx (k := ?_)
            refine ra_done ?_
            exact sp_cutE ⟨(v1, v2, v3), ⟨h1, g1⟩, ⟨h2, g2⟩, ⟨h3, g3⟩⟩ (by repeat' (first | trivial | exact rfl | apply And.intro)) (by repeat' (first | trivial | exact .head _ | apply And.intro | apply List.Mem.tail)) (by simp only [Nat.zero_add])
          · 
            refine r_lit (vs := []) (xs := []) (cells := []) (by exact tl rfl) (by exact z3) rfl rfl (by simp) (by simp) (by simp) (by exact rfl) (by exact rfl) (by exact rfl) fun l8 => ?_
            refine sl_nil ?_
            refine sp_nx (k := ?_)
            refine ra1 (i := 7) [11, 14, 15] (h := ?_)
            refine o_pull 2 rfl ?_
            refine r_append (n := 0) (xs := []) (mm := d.cache.xs.length) (news := wrsV d.cache.xs) (by exact tl rfl) (by exact z147) (by kernel_rfl) rfl (by exact rfl) (by exact rfl) (by iterate 24 (first | exact .head _ | apply List.Mem.tail | skip)) hcl (wrsV_one _) (by omega) (by omega) (by exact rfl) fun v2 h2 g2 => ?_
            dsimp only [pull, push, two, List.drop, List.take, List.cons_append, List.nil_append]
            refine sl_nil ?_
            refine sp_nx (k := ?_)
            refine ra1 (i := 11) [14, 15] (h := ?_)
            refine o_pull 1 rfl ?_
            refine r_append (n := 0) (xs := []) (mm := d.bad.xs.length) (news := isV d.bad.xs) (by exact tl rfl) (by exact z3) (by kernel_rfl) rfl (by exact rfl) (by exact rfl) (by iterate 24 (first | exact .head _ | apply List.Mem.tail | skip)) (by rw [hbl, Nat.mul_one]) (isV_one _) (by omega) (by omega) (by exact rfl) fun v3 h3 g3 => ?_
            dsimp only [pull, push, two, List.drop, List.take, List.cons_append, List.nil_append]
            refine sl_nil ?_
            refine sp_nx (k := ?_)
            refine ra1 (i := 14) [15] (h := ?_)
            refine r_buildP [v1, v2, v3, vb d.off] (parts := [(0, .tmp 6), (1, .tmp 10), (2, .tmp 14), (3, .tmp 16)]) (by exact rfl) (by rw [built_disk h1 h2 h3]) (by exact rfl) ?_
            refine sl_nil ?_
            refine sp_nx (k := ?_)
            refine ra1 (i := 15) [] (h := ?_)
            refine r_store_all (cs := [.slice none 0 0, .slice none 0 0, .slice none 0 0, vb false]) (vs := [v1, v2, v3, vb d.off]) (by exact tz rfl) (by exact rfl) (by exact rfl) (by iterate 24 (first | exact .hd | apply Upd.tl | skip)) rfl rfl (by rw [List.all_cons, g1, List.all_cons, g2, List.all_cons, g3]; rfl) rfl ?_
            refine sl_nil ?_
            refine sp_nx (k := ?_)
            refine ra_done ?_
            exact sp_cutE ⟨(v1, v2, v3), ⟨h1, g1⟩, ⟨h2, g2⟩, ⟨h3, g3⟩⟩ (by repeat' (first | trivial | exact rfl | apply And.intro)) (by repeat' (first | trivial | exact .head _ | apply And.intro | apply List.Mem.tail)) (by simp only [Nat.zero_add])
        · 
          refine r_lit (vs := []) (xs := []) (cells := []) (by exact tl rfl) (by exact z3) rfl rfl (by simp) (by simp) (by simp) (by exact rfl) (by exact rfl) (by exact rfl) fun l8 => ?_
          refine sl_nil ?_
          refine sp_nx (k := ?_)
          refine ra1 (i := 3) [7, 11, 14, 15] (h := ?_)
          refine o_pull 1 rfl ?_
          refine r_append (n := 0) (xs := []) (mm := d.pages.xs.length) (news := pgsV d.pages.xs) (by exact tl rfl) (by exact z37) (by kernel_rfl) rfl (by exact rfl) (by exact rfl) (by iterate 24 (first | exact .head _ | apply List.Mem.tail | skip)) hpl (pgsV_one _) (by omega) (by omega) (by exact rfl) fun v1 h1 g1 => ?_
          dsimp only [pull, push, two, List.drop, List.take, List.cons_append, List.nil_append]
          refine sl_nil ?_
          refine sp_nx (k := ?_)
          refine ra1 (i := 7) [11, 14, 15] (h := ?_)
          refine o_pull 2 rfl ?_
          refine r_append (n := 0) (xs := []) (mm := d.cache.xs.length) (news := wrsV d.cache.xs) (by exact tl rfl) (by exact z147) (by kernel_rfl) rfl (by exact rfl) (by exact rfl) (by iterate 24 (first | exact .head _ | apply List.Mem.tail | skip)) hcl (wrsV_one _) (by omega) (by omega) (by exact rfl) fun v2 h2 g2 => ?_
          dsimp only [pull, push, two, List.drop, List.take, List.cons_append, List.nil_append]
          refine sl_nil ?_
          refine sp_nx (k := ?_)
          refine ra1 (i := 11) [14, 15] (h := ?_)
          refine o_pull 2 rfl ?_
          refine r_append (n := 0) (xs := []) (mm := d.bad.xs.length) (news := isV d.bad.xs) (by exact tl rfl) (by exact z3) (by kernel_rfl) rfl (by exact rfl) (by exact rfl) (by iterate 24 (first | exact .head _ | apply List.Mem.tail | skip)) (by rw [hbl, Nat.mul_one]) (isV_one _) (by omega) (by omega) (by exact rfl) fun v3 h3 g3 => ?_
          dsimp only [pull, push, two, List.drop, List.take, List.cons_append, List.nil_append]
          refine sl_nil ?_
          refine sp_nx (k := ?_)
          refine ra1 (i := 14) [15] (h := ?_)
          refine r_buildP [v1, v2, v3, vb d.off] (parts := [(0, .tmp 6), (1, .tmp 10), (2, .tmp 14), (3, .tmp 16)]) (by exact rfl) (by rw [built_disk h1 h2 h3]) (by exact rfl) ?_
          refine sl_nil ?_
          refine sp_nx (k := ?_)
          refine ra1 (i := 15) [] (h := ?_)
          refine r_store_all (cs := [.slice none 0 0, .slice none 0 0, .slice none 0 0, vb false]) (vs := [v1, v2, v3, vb d.off]) (by exact tz rfl) (by exact rfl) (by exact rfl) (by iterate 24 (first | exact .hd | apply Upd.tl | skip)) rfl rfl (by rw [List.all_cons, g1, List.all_cons, g2, List.all_cons, g3]; rfl) rfl ?_
          refine sl_nil ?_
          refine sp_nx (k := ?_)
          refine ra_done ?_
          exact sp_cutE ⟨(v1, v2, v3), ⟨h1, g1⟩, ⟨h2, g2⟩, ⟨h3, g3⟩⟩ (by repeat' (first | trivial | exact rfl | apply And.intro)) (by repeat' (first | trivial | exact .head _ | apply And.intro | apply List.Mem.tail)) (by simp only [Nat.zero_add])
      · 
        refine r_lit (vs := []) (xs := []) (cells := []) (by exact tl rfl) (by exact z3) rfl rfl (by simp) (by simp) (by simp) (by exact rfl) (by exact rfl) (by exact rfl) fun l8 => ?_
        refine sl_nil ?_
        refine sp_nx (k := ?_)
        refine ra1 (i := 0) [3, 7, 11, 14, 15] (h := ?_)
        refine r_lit (vs := []) (xs := []) (cells := []) (by exact tl rfl) (by exact z37) rfl rfl (by simp) (by simp) (by simp) (by exact rfl) (by exact rfl) (by exact rfl) fun l0 => ?_
        refine sl_nil ?_
        refine sp_nx (k := ?_)
        refine ra1 (i := 3) [7, 11, 14, 15] (h := ?_)
        refine r_append (n := 0) (xs := []) (mm := d.pages.xs.length) (news := pgsV d.pages.xs) (by exact tl rfl) (by exact z37) (by kernel_rfl) rfl (by exact rfl) (by exact rfl) (by iterate 24 (first | exact .head _ | apply List.Mem.tail | skip)) hpl (pgsV_one _) (by omega) (by omega) (by exact rfl) fun v1 h1 g1 => ?_
        dsimp only [pull, push, two, List.drop, List.take, List.cons_append, List.nil_append]
        refine sl_nil ?_
        refine sp_nx (k := ?_)
        refine ra1 (i := 7) [11, 14, 15] (h := ?_)
        refine o_pull 2 rfl ?_
        refine r_append (n := 0) (xs := []) (mm := d.cache.xs.length) (news := wrsV d.cache.xs) (by exact tl rfl) (by exact z147) (by kernel_rfl) rfl (by exact rfl) (by exact rfl) (by iterate 24 (first | exact .head _ | apply List.Mem.tail | skip)) hcl (wrsV_one _) (by omega) (by omega) (by exact rfl) fun v2 h2 g2 => ?_
        dsimp only [pull, push, two, List.drop, List.take, List.cons_append, List.nil_append]
        refine sl_nil ?_
        refine sp_nx (k := ?_)
        refine ra1 (i := 11) [14, 15] (h := ?_)
        refine o_pull 2 rfl ?_
        refine r_append (n := 0) (xs := []) (mm := d.bad.xs.length) (news := isV d.bad.xs) (by exact tl rfl) (by exact z3) (by kernel_rfl) rfl (by exact rfl) (by exact rfl) (by iterate 24 (first | exact .head _ | apply List.Mem.tail | skip)) (by rw [hbl, Nat.mul_one]) (isV_one _) (by omega) (by omega) (by exact rfl) fun v3 h3 g3 => ?_
        dsimp only [pull, push, two, List.drop, List.take, List.cons_append, List.nil_append]
        refine sl_nil ?_
        refine sp_nx (k := ?_)
        refine ra1 (i := 14) [15] (h := ?_)
        refine r_buildP [v1, v2, v3, vb d.off] (parts := [(0, .tmp 6), (1, .tmp 10), (2, .tmp 14), (3, .tmp 16)]) (by exact rfl) (by rw [built_disk h1 h2 h3]) (by exact rfl) ?_
        refine sl_nil ?_
        refine sp_nx (k := ?_)
        refine ra1 (i := 15) [] (h := ?_)
        refine r_store_all (cs := [.slice none 0 0, .slice none 0 0, .slice none 0 0, vb false]) (vs := [v1, v2, v3, vb d.off]) (by exact tz rfl) (by exact rfl) (by exact rfl) (by iterate 24 (first | exact .hd | apply Upd.tl | skip)) rfl rfl (by rw [List.all_cons, g1, List.all_cons, g2, List.all_cons, g3]; rfl) rfl ?_
        refine sl_nil ?_
        refine sp_nx (k := ?_)
        refine ra_done ?_
        exact sp_cutE ⟨(v1, v2, v3), ⟨h1, g1⟩, ⟨h2, g2⟩, ⟨h3, g3⟩⟩ (by repeat' (first | trivial | exact rfl | apply And.intro)) (by repeat' (first | trivial | exact .head _ | apply And.intro | apply List.Mem.tail)) (by simp only [Nat.zero_add])
    · 
      refine r_lit (vs := []) (xs := []) (cells := []) (by exact tl rfl) (by exact z3) rfl rfl (by simp) (by simp) (by simp) (by exact rfl) (by exact rfl) (by exact rfl) fun l8 => ?_
      refine sl_nil ?_
      refine sp_nx (k := ?_)
      refine ra2 (i := 0) (j := 4) [3, 4, 7, 11, 14, 15] [0, 3, 7, 11, 14, 15] (by kernel_rfl) rfl rfl rfl rfl ?_ ?_
      · 
        refine r_lit (vs := []) (xs := []) (cells := []) (by exact tl rfl) (by exact z37) rfl rfl (by simp) (by simp) (by simp) (by exact rfl) (by exact rfl) (by exact rfl) fun l0 => ?_
        refine sl_nil ?_
        refine sp_nx (k := ?_)
        refine ra2 (i := 3) (j := 4) [4, 7, 11, 14, 15] [3, 7, 11, 14, 15] (by kernel_rfl) rfl rfl rfl rfl ?_ ?_
        · 
          refine r_append (n := 0) (xs := []) (mm := d.pages.xs.length) (news := pgsV d.pages.xs) (by exact tl rfl) (by exact z37) (by kernel_rfl) rfl (by exact rfl) (by exact rfl) (by iterate 24 (first | exact .head _ | apply List.Mem.tail | skip)) hpl (pgsV_one _) (by omega) (by omega) (by exact rfl) fun v1 h1 g1 => ?_
          dsimp only [pull, push, two, List.drop, List.take, List.cons_append, List.nil_append]
          refine sl_nil ?_
          refine sp_nx (k := ?_)
          refine ra1 (i := 4) [7, 11, 14, 15] (h := ?_)
          refine r_lit (vs := []) (xs := []) (cells := []) (by exact tl rfl) (by exact z147) rfl rfl (by simp) (by simp) (by simp) (by exact rfl) (by exact rfl) (by exact rfl) fun l4 => ?_
          refine sl_nil ?_
          refine sp_nx (k := ?_)
          refine ra1 (i := 7) [11, 14, 15] (h := ?_)
          refine r_append (n := 0) (xs := []) (mm := d.cache.xs.length) (news := wrsV d.cache.xs) (by exact tl rfl) (by exact z147) (by kernel_rfl) rfl (by exact rfl) (by exact rfl) (by iterate 24 (first | exact .head _ | apply List.Mem.tail | skip)) hcl (wrsV_one _) (by omega) (by omega) (by exact rfl) fun v2 h2 g2 => ?_
          dsimp only [pull, push, two, List.drop, List.take, List.cons_append, List.nil_append]
          refine sl_nil ?_
          refine sp_nx (k := ?_)
          refine ra1 (i := 11) [14, 15] (h := ?_)
          refine o_pull 2 rfl ?_
          refine r_append (n := 0) (xs := []) (mm := d.bad.xs.length) (news := isV d.bad.xs) (by exact tl rfl) (by exact z3) (by kernel_rfl) rfl (by exact rfl) (by exact rfl) (by iterate 24 (first | exact .head _ | apply List.Mem.tail | skip)) (by rw [hbl, Nat.mul_one]) (isV_one _) (by omega) (by omega) (by exact rfl) fun v3 h3 g3 => ?_
          dsimp only [pull, push, two, List.drop, List.take, List.cons_append, List.nil_append]
          refine sl_nil ?_
          refine sp_nx (k := ?_)
          refine ra1 (i := 14) [15] (h := ?_)
          refine r_buildP [v1, v2, v3, vb d.off] (parts := [(0, .tmp 6), (1, .tmp 10), (2, .tmp 14), (3, .tmp 16)]) (by exact rfl) (by rw [built_disk h1 h2 h3]) (by exact rfl) ?_
          refine sl_nil ?_
          refine sp_nx (k := ?_)
          refine ra1 (i := 15) [] (h := ?_)
          refine r_store_all (cs := [.slice none 0 0, .slice none 0 0, .slice none 0 0, vb false]) (vs := [v1, v2, v3, vb d.off]) (by exact tz rfl) (by exact rfl) (by exact rfl) (by iterate 24 (first | exact .hd | apply Upd.tl | skip)) rfl rfl (by rw [List.all_cons, g1, List.all_cons, g2, List.all_cons, g3]; rfl) rfl ?_
          refine sl_nil ?_
          refine sp_nx (k := ?_)
          refine ra_done ?_
          exact sp_cutE ⟨(v1, v2, v3), ⟨h1, g1⟩, ⟨h2, g2⟩, ⟨h3, g3⟩⟩ (by repeat' (first | trivial | exact rfl | apply And.intro)) (by repeat' (first | trivial | exact .head _ | apply And.intro | apply List.Mem.tail)) (by simp only [Nat.zero_add])
        · 
          refine r_lit (vs := []) (xs := []) (cells := []) (by exact tl rfl) (by exact z147) rfl rfl (by simp) (by simp) (by simp) (by exact rfl) (by exact rfl) (by exact rfl) fun l4 => ?_
          refine sl_nil ?_
          refine sp_nx (k := ?_)
          refine ra1 (i := 3) [7, 11, 14, 15] (h := ?_)
          refine o_pull 1 rfl ?_
          refine r_append (n := 0) (xs := []) (mm := d.pages.xs.length) (news := pgsV d.pages.xs) (by exact tl rfl) (by exact z37) (by kernel_rfl) rfl (by exact rfl) (by exact rfl) (by iterate 24 (first | exact .head _ | apply List.Mem.tail | skip)) hpl (pgsV_one _) (by omega) (by omega) (by exact rfl) fun v1 h1 g1 => ?_
          dsimp only [pull, push, two, List.drop, List.take, List.cons_append, List.nil_append]
          refine sl_nil ?_
          refine sp_nx (k := ?_)
          refine ra1 (i := 7) [11, 14, 15] (h := ?_)
          refine o_pull 1 rfl ?_
          refine r_append (n := 0) (xs := []) (mm := d.cache.xs.length) (news := wrsV d.cache.xs) (by exact tl rfl) (by exact z147) (by kernel_rfl) rfl (by exact rfl) (by exact rfl) (by iterate 24 (first | exact .head _ | apply List.Mem.tail | skip)) hcl (wrsV_one _) (by omega) (by omega) (by exact rfl) fun v2 h2 g2 => ?_
          dsimp only [pull, push, two, List.drop, List.take, List.cons_append, List.nil_append]
          refine sl_nil ?_
          refine sp_nx (k := ?_)
          refine ra1 (i := 11) [14, 15] (h := ?_)
          refine o_pull 2 rfl ?_
          refine r_append (n := 0) (xs := []) (mm := d.bad.xs.length) (news := isV d.bad.xs) (by exact tl rfl) (by exact z3) (by kernel_rfl) rfl (by exact rfl) (by exact rfl) (by iterate 24 (first | exact .head _ | apply List.Mem.tail | skip)) (by rw [hbl, Nat.mul_one]) (isV_one _) (by omega) (by omega) (by exact rfl) fun v3 h3 g3 => ?_
          dsimp only [pull, push, two, List.drop, List.take, List.cons_append, List.nil_append]
          refine sl_nil ?_
          refine sp_nx (k := ?_)
          refine ra1 (i := 14) [15] (h := ?_)
          refine r_buildP [v1, v2, v3, vb d.off] (parts := [(0, .tmp 6), (1, .tmp 10), (2, .tmp 14), (3, .tmp 16)]) (by exact rfl) (by rw [built_disk h1 h2 h3]) (by exact rfl) ?_
          refine sl_nil ?_
          refine sp_nx (k := ?_)
          refine ra1 (i := 15) [] (h := ?_)
          refine r_store_all (cs := [.slice none 0 0, .slice none 0 0, .slice none 0 0, vb false]) (vs := [v1, v2, v3, vb d.off]) (by exact tz rfl) (by exact rfl) (by exact rfl) (by iterate 24 (first | exact .hd | apply Upd.tl | skip)) rfl rfl (by rw [List.all_cons, g1, List.all_cons, g2, List.all_cons, g3]; rfl) rfl ?_
          refine sl_nil ?_
          refine sp_nx (k := ?_)
          refine ra_done ?_
          exact sp_cutE ⟨(v1, v2, v3), ⟨h1, g1⟩, ⟨h2, g2⟩, ⟨h3, g3⟩⟩ (by repeat' (first | trivial | exact rfl | apply And.intro)) (by repeat' (first | trivial | exact .head _ | apply And.intro | apply List.Mem.tail)) (by simp only [Nat.zero_add])
      · 
        refine r_lit (vs := []) (xs := []) (cells := []) (by exact tl rfl) (by exact z147) rfl rfl (by simp) (by simp) (by simp) (by exact rfl) (by exact rfl) (by exact rfl) fun l4 => ?_
        refine sl_nil ?_
        refine sp_nx (k := ?_)
        refine ra1 (i := 0) [3, 7, 11, 14, 15] (h := ?_)
        refine r_lit (vs := []) (xs := []) (cells := []) (by exact tl rfl) (by exact z37) rfl rfl (by simp) (by simp) (by simp) (by exact rfl) (by exact rfl) (by exact rfl) fun l0 => ?_
        refine sl_nil ?_
        refine sp_nx (k := ?_)
        refine ra1 (i := 3) [7, 11, 14, 15] (h := ?_)
        refine r_append (n := 0) (xs := []) (mm := d.pages.xs.length) (news := pgsV d.pages.xs) (by exact tl rfl) (by exact z37) (by kernel_rfl) rfl (by exact rfl) (by exact rfl) (by iterate 24 (first | exact .head _ | apply List.Mem.tail | skip)) hpl (pgsV_one _) (by omega) (by omega) (by exact rfl) fun v1 h1 g1 => ?_
        dsimp only [pull, push, two, List.drop, List.take, List.cons_append, List.nil_append]
        refine sl_nil ?_
        refine sp_nx (k := ?_)
        refine ra1 (i := 7) [11, 14, 15] (h := ?_)
        refine o_pull 1 rfl ?_
        refine r_append (n := 0) (xs := []) (mm := d.cache.xs.length) (news := wrsV d.cache.xs) (by exact tl rfl) (by exact z147) (by kernel_rfl) rfl (by exact rfl) (by exact rfl) (by iterate 24 (first | exact .head _ | apply List.Mem.tail | skip)) hcl (wrsV_one _) (by omega) (by omega) (by exact rfl) fun v2 h2 g2 => ?_
        dsimp only [pull, push, two, List.drop, List.take, List.cons_append, List.nil_append]
        refine sl_nil ?_
        refine sp_nx (k := ?_)
        refine ra1 (i := 11) [14, 15] (h := ?_)
        refine o_pull 2 rfl ?_
        refine r_append (n := 0) (xs := []) (mm := d.bad.xs.length) (news := isV d.bad.xs) (by exact tl rfl) (by exact z3) (by kernel_rfl) rfl (by exact rfl) (by exact rfl) (by iterate 24 (first | exact .head _ | apply List.Mem.tail | skip)) (by rw [hbl, Nat.mul_one]) (isV_one _) (by omega) (by omega) (by exact rfl) fun v3 h3 g3 => ?_
        dsimp only [pull, push, two, List.drop, List.take, List.cons_append, List.nil_append]
        refine sl_nil ?_
        refine sp_nx (k := ?_)
        refine ra1 (i := 14) [15] (h := ?_)
        refine r_buildP [v1, v2, v3, vb d.off] (parts := [(0, .tmp 6), (1, .tmp 10), (2, .tmp 14), (3, .tmp 16)]) (by exact rfl) (by rw [built_disk h1 h2 h3]) (by exact rfl) ?_
        refine sl_nil ?_
        refine sp_nx (k := ?_)
        refine ra1 (i := 15) [] (h := ?_)
        refine r_store_all (cs := [.slice none 0 0, .slice none 0 0, .slice none 0 0, vb false]) (vs := [v1, v2, v3, vb d.off]) (by exact tz rfl) (by exact rfl) (by exact rfl) (by iterate 24 (first | exact .hd | apply Upd.tl | skip)) rfl rfl (by rw [List.all_cons, g1, List.all_cons, g2, List.all_cons, g3]; rfl) rfl ?_
        refine sl_nil ?_
        refine sp_nx (k := ?_)
        refine ra_done ?_
        exact sp_cutE ⟨(v1, v2, v3), ⟨h1, g1⟩, ⟨h2, g2⟩, ⟨h3, g3⟩⟩ (by repeat' (first | trivial | exact rfl | apply And.intro)) (by repeat' (first | trivial | exact .head _ | apply And.intro | apply List.Mem.tail)) (by simp only [Nat.zero_add])
  obtain ⟨⟨v1, v2, v3⟩, ⟨h1, g1⟩, ⟨h2, g2⟩, ⟨h3, g3⟩⟩ := v
  dsimp only at h1 g1 h2 g2 h3 g3 ⊢
  refine sw_ret ?_
  refine sp_pull 1 rfl ?_
  refine sp_pull 2 rfl ?_
  refine sp_retv rfl rfl (.agg rfl (tz rfl) rfl (by iterate 24 (first | exact .head _ | apply List.Mem.tail | skip))) rfl rfl ⟨v1, v2, v3, ⟨h1, g1⟩, ⟨h2, g2⟩, ⟨h3, g3⟩, rfl, rfl, rfl⟩ (.cons_cons _ (.cons_cons _ (.cons_cons _ (List.nil_sublist _)))) rfl (by simp)
end Go.Proofs.YtjahiohlekdhoaaDoor

namespace Go.Proofs.YtjahiohlekdhoaaDoor
open Go
set_option maxHeartbeats 4000000
set_option maxRecDepth 4000
attribute [local irreducible] SW SL SP RA Then FQ IQ LoopQ RQ AQ NX CutQ Exit.noGoto

theorem c_r3may (G : Res) (d : DiskV) (hd : d.ok) (ho : d.off = false) (hb : d.bad.xs = []) : Ctr Tryd.prog G 115 [d.v] [] [d.rp, d.rc, d.rb] (ret1 (vb true)) := by
  have hn0 : 32 ≤ d.pages.xs.length := hd.f.n0
  have hn1 : d.pages.xs.length ≤ 64 := hd.f.n1
  have hc : d.cache.xs.length ≤ 1000 := hd.f.c
  have hwl : (wrsV d.cache.xs).length = d.cache.xs.length * 257 := wrsV_len hd.f
  refine Ctr.intro Tryd.func115 (by kernel_rfl) rfl Tryd.ntmps115 rfl rfl rfl fun w' X => ?_
  refine sw_seq ?_
  refine sw_region ?_
  refine r_box (cs := d.cs) (by exact rfl) rfl (by exact rfl) fun b1 => ?_
  refine r_assign (k := ?_)
  refine sl_nil ?_
  refine sp_then ?_
  refine sw_seq ?_
  refine sw_region ?_
  refine r_fieldAddr (k := ?_)
  refine r_load_one (k := ?_)
  refine r_len (k := ?_)
  refine r_assign (k := ?_)
  refine sl_nil ?_
  refine sp_then ?_
  refine sw_seq ?_
  refine sw_seq ?_
  refine sw_region ?_
  refine r_move (k := ?_)
  refine r_lss (k := ?_)
  refine r_move (k := ?_)
  refine r_re (t := 11) (v' := vb false) rfl (by rw [decide_eq_false (by omega)]) ?_
  refine gd_yes (k := ?_)
  refine r_move (k := ?_)
  refine gd_yes (k := ?_)
  refine r_gtr (k := ?_)
  refine rd_pick_f (k := ?_)
  refine r_move (k := ?_)
  refine r_re (t := 15) (v' := vb false) rfl (by rw [decide_eq_false (by omega)]) ?_
  refine gd_yes (k := ?_)
  refine r_fieldAddr (k := ?_)
  refine gd_yes (k := ?_)
  refine r_load_one (k := ?_)
  refine gd_yes (k := ?_)
  refine r_len (k := ?_)
  refine gd_yes (k := ?_)
  refine r_gtr (k := ?_)
  refine rd_pick_f (k := ?_)
  refine r_move (k := ?_)
  refine r_re (t := 21) (v' := vb false) rfl (by rw [decide_eq_false (by omega)]) ?_
  refine gd_yes (k := ?_)
  refine r_fieldAddr (k := ?_)
  refine gd_yes (k := ?_)
  refine r_load_one (k := ?_)
  refine gd_yes (k := ?_)
  refine r_move (k := ?_)
  refine r_re (t := 24) (v' := vb false) rfl (by rw [ho]) ?_
  refine gd_no (k := ?_)
  refine gd_no (k := ?_)
  refine gd_no (k := ?_)
  refine gd_no (k := ?_)
  refine gd_yes (k := ?_)
  refine rd_pick_f (k := ?_)
  refine rd_pick_f (k := ?_)
  refine sl_nil ?_
  refine sp_then ?_
  refine swd_f (h := ?_)
  refine sw_skip ?_
  refine sp_then ?_
  refine sw_seq ?_
  refine sw_seq ?_
  refine sw_region ?_
  refine r_assign (k := ?_)
  refine sl_nil ?_
  refine sp_then ?_
  refine sw_block ?_
  refine sw_loop (ι := { i : Nat // i ≤ d.cache.xs.length }) (fun i => [(1, .pointer (some ⟨b1, 0, none⟩)), (3, vi (d.pages.xs.length : Int)), (4, vi (i.1 : Int))]) (fun _ => [.box b1 d.cs 60]) (fun _ => [d.rc]) (fun _ => []) (fun i => d.cache.xs.length - i.1) ⟨0, by omega⟩ ?_ fun i => ?_
  · exact Ent.mk' (by repeat' (first | trivial | exact rfl | apply And.intro)) (by repeat' (first | trivial | exact .head _ | apply And.intro | apply List.Mem.tail))
  obtain ⟨i, hi⟩ := i
  dsimp only
  refine sw_seq ?_
  refine sw_seq ?_
  refine sw_region ?_
  refine r_move (k := ?_)
  refine r_fieldAddr (k := ?_)
  refine r_load_one (k := ?_)
  refine r_len (k := ?_)
  refine r_lss (k := ?_)
  refine sl_nil ?_
  refine sp_then ?_
  refine sw_cond rfl (fun h => ?_) (fun h => ?_)
  · have h := of_decide_eq_true h
    have hi' : i < d.cache.xs.length := by omega
    have hca : 0 ≤ d.cache.xs[i].at' ∧ d.cache.xs[i].at' < (d.pages.xs.length : Int) := hd.f.ca d.cache.xs[i] (List.getElem_mem hi')
    have hat : (wrsV d.cache.xs)[i * 257 + 0]? = some (vi d.cache.xs[i].at') := fm_get _ i 0 (wrsV_h hd.f) hi' rfl
    refine sw_skip ?_
    refine sp_then ?_
    refine sw_seq ?_
    refine sw_block ?_
    refine sw_seq ?_
    refine sw_region ?_
    refine r_fieldAddr (k := ?_)
    refine r_load_one (k := ?_)
    refine r_move (k := ?_)
    refine r_idx (cs := wrsV d.cache.xs) (by exact tl rfl) (by exact rfl) (by exact rfl) (by omega) (by omega) (by iterate 24 (first | exact .head _ | apply List.Mem.tail | skip)) (by rw [hwl]; exact Nat.le_refl _) (by exact rfl) (by exact Int.toNat_natCast _) (by exact rfl) ?_
    refine r_fieldAddr_mem (o := i * 257) (cs := wrsV d.cache.xs) (by exact tf rfl rfl) (by exact rfl) (by exact rfl) (by iterate 24 (first | exact .head _ | apply List.Mem.tail | skip)) (by omega) (by exact rfl) ?_
    refine r_load_mem1 (v := vi d.cache.xs[i].at') (cs := wrsV d.cache.xs) (by exact tz rfl) (by exact rfl) (by iterate 24 (first | exact .head _ | apply List.Mem.tail | skip)) hat (by exact rfl) ?_
    refine r_lss (k := ?_)
    refine r_move (k := ?_)
    refine r_re (t := 45) (v' := vb false) rfl (by rw [decide_eq_false (by omega)]) ?_
    refine gd_yes (k := ?_)
    refine r_fieldAddr (k := ?_)
    refine gd_yes (k := ?_)
    refine r_load_one (k := ?_)
    refine gd_yes (k := ?_)
    refine r_move (k := ?_)
    refine gd_yes (k := ?_)
    refine r_idx (cs := wrsV d.cache.xs) (by exact tl rfl) (by exact rfl) (by exact rfl) (by omega) (by omega) (by iterate 24 (first | exact .head _ | apply List.Mem.tail | skip)) (by rw [hwl]; exact Nat.le_refl _) (by exact rfl) (by exact Int.toNat_natCast _) (by exact rfl) ?_
    refine gd_yes (k := ?_)
    refine r_fieldAddr_mem (o := i * 257) (cs := wrsV d.cache.xs) (by exact tf rfl rfl) (by exact rfl) (by exact rfl) (by iterate 24 (first | exact .head _ | apply List.Mem.tail | skip)) (by omega) (by exact rfl) ?_
    refine gd_yes (k := ?_)
    refine r_load_mem1 (v := vi d.cache.xs[i].at') (cs := wrsV d.cache.xs) (by exact tz rfl) (by exact rfl) (by iterate 24 (first | exact .head _ | apply List.Mem.tail | skip)) hat (by exact rfl) ?_
    refine gd_yes (k := ?_)
    refine r_move (k := ?_)
    refine gd_yes (k := ?_)
    refine r_geq (k := ?_)
    refine rd_pick_f (k := ?_)
    refine sl_nil ?_
    refine sp_then ?_
    refine w_re (t := 54) (v' := vb false) rfl (by rw [decide_eq_false (by omega)]) ?_
    refine swd_f (h := ?_)
    refine sw_skip ?_
    refine sp_block ?_
    refine sp_then ?_
    refine sw_region ?_
    refine r_move (k := ?_)
    refine r_add64 (k := ?_)
    refine r_assign (k := ?_)
    refine sl_nil ?_
    refine sp_loop (ι := { i : Nat // i ≤ d.cache.xs.length }) ⟨i + 1, by omega⟩ ?_ ?_
    · dsimp only; omega
    · exact Ent.mk' (by repeat' (first | trivial | exact rfl | apply And.intro)) (by repeat' (first | trivial | exact .head _ | apply And.intro | apply List.Mem.tail))
  refine sw_exit ?_
  refine sp_then_exit ?_
  refine sp_loop_exit ?_
  refine sp_block_exit ?_
  refine sp_then ?_
  refine sw_seq ?_
  refine sw_seq ?_
  refine sw_region ?_
  refine r_assign (k := ?_)
  refine sl_nil ?_
  refine sp_then ?_
  refine sw_block ?_
  refine sw_loop (ι := Unit) (fun _ => [(1, .pointer (some ⟨b1, 0, none⟩)), (5, vi 0)]) (fun _ => [.box b1 d.cs 60]) (fun _ => []) (fun _ => []) (fun _ => 0) () ?_ fun _ => ?_
  · exact Ent.mk' (by repeat' (first | trivial | exact rfl | apply And.intro)) (by repeat' (first | trivial | exact .head _ | apply And.intro | apply List.Mem.tail))
  refine sw_seq ?_
  refine sw_seq ?_
  refine sw_region ?_
  refine r_move (k := ?_)
  refine r_fieldAddr (k := ?_)
  refine r_load_one (k := ?_)
  refine r_len (k := ?_)
  refine r_lss (k := ?_)
  refine sl_nil ?_
  refine sp_then ?_
  refine w_re (t := 59) (v' := vb false) rfl (by rw [hb]; rfl) ?_
  refine swd_f (h := ?_)
  refine sw_exit ?_
  refine sp_then_exit ?_
  refine sp_loop_exit ?_
  refine sp_block_exit ?_
  refine sp_then ?_
  refine sw_seq ?_
  refine sw_region ?_
  refine r_assign (k := ?_)
  refine sl_nil ?_
  refine sp_then ?_
  refine sw_ret ?_
  refine sp_retv rfl rfl (.tmp rfl) rfl rfl ⟨rfl, rfl, rfl⟩ (by simp) rfl (by simp)

theorem c_r3at0 (G : Res) (d : DiskV) (hd : d.ok) (ho : d.off = false) (hb : d.bad.xs = []) : Ctr Tryd.prog G 99 [d.v, vi 0] [] [d.rp, d.rc, d.rb] (ret1 (vi 0)) := by
  have hn0 : 32 ≤ d.pages.xs.length := hd.f.n0
  refine Ctr.intro Tryd.func99 (by kernel_rfl) rfl Tryd.ntmps99 rfl rfl rfl fun w' X => ?_
  refine sw_seq ?_
  refine sw_region ?_
  refine r_box (cs := d.cs) (by exact rfl) rfl (by exact rfl) fun b1 => ?_
  refine r_assign (k := ?_)
  refine sl_nil ?_
  refine sp_then ?_
  refine sw_seq ?_
  refine sw_seq ?_
  refine sw_region ?_
  refine r_load_all (k := ?_)
  refine r_call1 (c_r3may G d hd ho hb) (by exact rfl) (by exact rfl) (by exact rfl) (PhAll.all (by repeat' (first | trivial | exact .head _ | apply And.intro | apply List.Mem.tail))) (by exact rfl) ?_
  refine r_not (k := ?_)
  refine r_move (k := ?_)
  refine gd_yes (k := ?_)
  refine r_move (k := ?_)
  refine gd_yes (k := ?_)
  refine r_lss (k := ?_)
  refine rd_pick_f (k := ?_)
  refine r_move (k := ?_)
  refine r_re (t := 12) (v' := vb false) rfl rfl ?_
  refine gd_yes (k := ?_)
  refine r_move (k := ?_)
  refine gd_yes (k := ?_)
  refine r_fieldAddr (k := ?_)
  refine gd_yes (k := ?_)
  refine r_load_one (k := ?_)
  refine gd_yes (k := ?_)
  refine r_len (k := ?_)
  refine gd_yes (k := ?_)
  refine r_geq (k := ?_)
  refine rd_pick_f (k := ?_)
  refine sl_nil ?_
  refine sp_then ?_
  refine w_re (t := 18) (v' := vb false) rfl (by rw [decide_eq_false (by omega)]) ?_
  refine swd_f (h := ?_)
  refine sw_skip ?_
  refine sp_then ?_
  refine sw_seq ?_
  refine sw_seq ?_
  refine sw_region ?_
  refine r_fieldAddr (k := ?_)
  refine r_load_one (k := ?_)
  refine sl_nil ?_
  refine sp_then ?_
  refine w_re (t := 20) (v' := vb false) rfl (by rw [ho]) ?_
  refine swd_f (h := ?_)
  refine sw_skip ?_
  refine sp_then ?_
  refine sw_seq ?_
  refine sw_region ?_
  refine r_assign (k := ?_)
  refine sl_nil ?_
  refine sp_then ?_
  refine sw_ret ?_
  refine sp_retv rfl rfl (.tmp rfl) rfl rfl ⟨rfl, rfl, rfl⟩ (by simp) rfl (by simp)

theorem c_r3flush (G : Res) (d : DiskV) (hd : d.ok) (ho : d.off = false) (hb : d.bad.xs = []) : Ctr Tryd.prog G 72 [d.v] [] [d.rp, d.rc, d.rb] (retD d.pure.flush) := by
  have hn0 : 32 ≤ d.pages.xs.length := hd.f.n0
  have hn1 : d.pages.xs.length ≤ 64 := hd.f.n1
  have hc : d.cache.xs.length ≤ 1000 := hd.f.c
  have hwl : (wrsV d.cache.xs).length = d.cache.xs.length * 257 := wrsV_len hd.f
  have hpl : (pgsV d.pages.xs).length = d.pages.xs.length * 256 := pgsV_len hd.f
  refine Ctr.intro Tryd.func72 (by kernel_rfl) rfl Tryd.ntmps72 rfl rfl rfl fun w' X => ?_
  refine sw_seq ?_
  refine sw_region ?_
  refine r_box (cs := d.cs) (by exact rfl) rfl (by exact rfl) fun b1 => ?_
  refine r_alloc (by exact z60) (by exact rfl) (by exact rfl) fun b2 => ?_
  refine r_assign (k := ?_)
  refine sl_nil ?_
  refine sp_then ?_
  refine sw_seq ?_
  refine sw_region ?_
  refine r_load_all (k := ?_)
  refine r_call (Bp := []) (c_r3copy G d hd) (by exact rfl) (by exact rfl) (by exact rfl) (PhAll.all (by repeat' (first | trivial | exact .head _ | apply And.intro | apply List.Mem.tail))) (by exact rfl) ?_
  rintro _ _ _ ⟨v1, v2, v3, ⟨h1, g1⟩, ⟨h2, g2⟩, ⟨h3, g3⟩, rfl, rfl, rfl⟩
  refine r_alloc (by exact z60) (by exact rfl) (by exact rfl) fun b4 => ?_
  refine r_store_all (cs := [.slice none 0 0, .slice none 0 0, .slice none 0 0, vb false]) (vs := [v1, v2, v3, vb d.off]) (by exact tz rfl) (by exact rfl) (by exact rfl) (by iterate 24 (first | exact .hd | apply Upd.tl | skip)) rfl rfl (by rw [List.all_cons, g1, List.all_cons, g2, List.all_cons, g3]; rfl) rfl ?_
  refine o_pull 1 rfl ?_
  refine o_rowBox (by show 0 < d.pages.xs.length; omega) fun b cap cs e1 q1 q2 q3 q4 _ => ?_
  cases e1
  refine o_pull 2 rfl ?_
  refine o_drop rfl ?_
  refine o_pull 2 rfl ?_
  refine o_row fun bab capb e3 q7 q8 _ => ?_
  cases e3
  obtain ⟨rest, er⟩ : ∃ rest, cs = pgsV d.pages.xs ++ rest := ⟨cs.drop (d.pages.xs.length * 256), by
    have : cs.take (d.pages.xs.length * 256) = pgsV d.pages.xs := q4
    rw [← this, List.take_append_drop]⟩
  subst er
  have hb0 : d.pure.bad = [] := hb
  rw [hb0]
  dsimp only [pull, push, two, List.drop, List.take, List.cons_append, List.nil_append]
  simp only [show d.pure.pages = d.pages.xs from rfl, show d.pure.off = d.off from rfl] at q3 ⊢
  refine sl_nil ?_
  refine sp_then ?_
  refine sw_seq ?_
  refine sw_region ?_
  refine r_load_all (k := ?_)
  refine r_call1 (c_r3at0 G d hd ho hb) (by exact rfl) (by exact rfl) (by exact rfl) (PhAll.all (by repeat' (first | trivial | exact .head _ | apply And.intro | apply List.Mem.tail))) (by exact rfl) ?_
  simp only [List.append]
  refine r_assign (k := ?_)
  refine sl_nil ?_
  refine sp_then ?_
  refine sw_seq ?_
  refine sw_seq ?_
  refine sw_region ?_
  refine r_move (k := ?_)
  refine r_neq (k := ?_)
  refine sl_nil ?_
  refine sp_then ?_
  refine w_re (t := 15) (v' := vb false) rfl rfl ?_
  refine swd_f (h := ?_)
  refine sw_skip ?_
  refine sp_then ?_
  refine sw_seq ?_
  refine sw_seq ?_
  refine sw_region ?_
  refine r_assign (k := ?_)
  refine sl_nil ?_
  refine sp_then ?_
  refine sw_block ?_
  refine sw_loop (ι := { q : Nat × Option Addr × Nat // q.1 ≤ d.cache.xs.length ∧ q.2.2 ≤ maxLen }) (fun q => [(1, .pointer (some ⟨b1, 0, none⟩)), (2, .pointer (some ⟨b2, 0, none⟩)), (3, vi 0), (4, .pointer (some ⟨b4, 0, none⟩)), (6, vi (q.1.1 : Int))])
    (fun q => [.box b (pgsV (pagesAt d.pages.xs (d.cache.xs.take q.1.1)) ++ rest) 37, .box b4 [.slice (some ⟨b, 0, none⟩) d.pages.xs.length cap, v2, .slice q.1.2.1 0 q.1.2.2, vb d.off] 60, .box b2 [.slice none 0 0, .slice none 0 0, .slice none 0 0, vb false] 60, .box b1 d.cs 60]) (fun _ => [d.rc]) (fun _ => []) (fun q => d.cache.xs.length - q.1.1) ⟨(0, bab, capb), by dsimp only; omega, q8⟩ ?_ fun q => ?_
  · exact Ent.mk' (by repeat' (first | trivial | exact rfl | apply And.intro)) (by repeat' (first | trivial | exact .head _ | apply And.intro | apply List.Mem.tail))
  obtain ⟨⟨i, ba', cap'⟩, hi, hcm⟩ := q
  dsimp only at hi hcm ⊢
  refine sw_seq ?_
  refine sw_seq ?_
  refine sw_region ?_
  refine r_move (k := ?_)
  refine r_fieldAddr (k := ?_)
  refine r_load_one (k := ?_)
  refine r_len (k := ?_)
  refine r_lss (k := ?_)
  refine sl_nil ?_
  refine sp_then ?_
  refine sw_cond rfl (fun h => ?_) (fun h => ?_)
  · have h := of_decide_eq_true h
    have hi' : i < d.cache.xs.length := by omega
    obtain ⟨x, ex⟩ : ∃ x, x = d.cache.xs[i] := ⟨_, rfl⟩
    have hca : 0 ≤ x.at' ∧ x.at' < (d.pages.xs.length : Int) := ex ▸ hd.f.ca d.cache.xs[i] (List.getElem_mem hi')
    have hxl : x.data.length = 256 := ex ▸ hd.f.cd d.cache.xs[i] (List.getElem_mem hi')
    have hl1 : (bv x.data).length = 256 := by rw [bv_len, hxl]
    have hl2 : x.cs.length = 257 := by rw [WrV.cs, List.length_cons, hl1]
    obtain ⟨P, eP⟩ : ∃ P, P = pagesAt d.pages.xs (d.cache.xs.take i) := ⟨_, rfl⟩
    have hPl : P.length = d.pages.xs.length := eP ▸ pagesAt_len _ _
    have hPh : ∀ y ∈ P, (bv y).length = 256 := fun y hy => by
      rw [bv_len]
      exact pagesAt_h (d.cache.xs.take i) (fun z hz => hd.f.cd z (List.take_subset _ _ hz)) d.pages.xs hd.f.pg y (eP ▸ hy)
    have hPc : (pgsV P).length = P.length * 256 := fm_len P hPh
    have hat : x.at'.toNat < P.length := by omega
    have enext : pagesAt d.pages.xs (d.cache.xs.take (i + 1)) = P.set x.at'.toNat x.data := by rw [pagesAt_take _ _ i hi', ← ex, ← eP]
    rw [← eP]
    refine sw_skip ?_
    refine sp_then ?_
    refine sw_seq ?_
    refine sw_block ?_
    refine sw_seq ?_
    refine sw_region ?_
    refine r_fieldAddr (k := ?_)
    refine r_load_one (k := ?_)
    refine r_move (k := ?_)
    refine r_idx (cs := wrsV d.cache.xs) (by exact tl rfl) (by exact rfl) (by exact rfl) (by omega) (by omega) (by iterate 24 (first | exact .head _ | apply List.Mem.tail | skip)) (by rw [hwl]; exact Nat.le_refl _) (by exact rfl) (by exact Int.toNat_natCast _) (by exact rfl) ?_
    refine r_load_mem (vs := x.cs) (by exact tz rfl) (by exact rfl) (by iterate 24 (first | exact .head _ | apply List.Mem.tail | skip)) (ex ▸ fm_at _ i (wrsV_h hd.f) hi') rfl hl2 (by exact rfl) ?_
    refine r_alloc (by exact z147) (cs := zeroW) (by kernel_rfl) (by exact rfl) fun b6 => ?_
    refine r_store_all (cs := zeroW) (vs := x.cs) (by exact tz rfl) (by exact rfl) (by exact rfl) (by iterate 24 (first | exact .hd | apply Upd.tl | skip)) rfl hl2 (wrsV_oneC _) rfl ?_
    refine sl_nil ?_
    refine sp_then ?_
    refine sw_seq ?_
    refine sw_region ?_
    refine r_fieldAddr (k := ?_)
    refine r_load_one (k := ?_)
    refine r_fieldAddr (k := ?_)
    refine r_load_one (k := ?_)
    refine r_fieldAddr (k := ?_)
    refine r_load_agg (cs := x.cs) (off := 1) (vs := bv x.data) (by exact tz rfl) (by exact rfl) (by iterate 24 (first | exact .head _ | apply List.Mem.tail | skip)) (by rw [WrV.cs, List.drop_succ_cons, List.drop_zero]; exact List.take_of_length_le (Nat.le_of_eq hl1)) hl1 (by exact rfl) ?_
    refine r_idx_own (i := x.at'.toNat) (by exact tl rfl) (by exact rfl) (by exact rfl) hca.1 hca.2 rfl (by exact rfl) ?_
    refine r_store (vs := bv x.data) (cs' := pgsV (P.set x.at'.toNat x.data) ++ rest) (by exact tz rfl) (by exact rfl) (by exact rfl) (by iterate 24 (first | exact .hd | apply Upd.tl | skip)) rfl hl1 (bv_one _) (by rw [hl1]; refine Nat.le_trans (m := P.length * 256) (by omega) ?_; rw [← hPc]; exact Nat.le_trans (Nat.le_add_right _ rest.length) (Nat.le_of_eq (List.length_append).symm)) (fm_set P x.at'.toNat x.data hPh hl1 hat rest) ?_
    refine sl_nil ?_
    refine sp_then ?_
    refine sw_seq ?_
    refine sw_region ?_
    refine r_assign (k := ?_)
    refine sl_nil ?_
    refine sp_then ?_
    refine sw_seq ?_
    refine sw_seq ?_
    refine sw_region ?_
    refine r_assign (k := ?_)
    refine sl_nil ?_
    refine sp_then ?_
    refine sw_block ?_
    refine sw_loop (ι := Unit) (fun _ => [(1, .pointer (some ⟨b1, 0, none⟩)), (2, .pointer (some ⟨b2, 0, none⟩)), (3, vi 0), (4, .pointer (some ⟨b4, 0, none⟩)), (6, vi (i : Int)), (8, .slice none 0 0), (9, vi 0)])
      (fun _ => [.box b6 x.cs 147, .box b (pgsV (P.set x.at'.toNat x.data) ++ rest) 37, .box b4 [.slice (some ⟨b, 0, none⟩) d.pages.xs.length cap, v2, .slice ba' 0 cap', vb d.off] 60, .box b2 [.slice none 0 0, .slice none 0 0, .slice none 0 0, vb false] 60, .box b1 d.cs 60]) (fun _ => [d.rc]) (fun _ => []) (fun _ => 0) () ?_ fun _ => ?_
    · exact Ent.mk' (by repeat' (first | trivial | exact rfl | apply And.intro)) (by repeat' (first | trivial | exact .head _ | apply And.intro | apply List.Mem.tail))
    refine sw_seq ?_
    refine sw_seq ?_
    refine sw_region ?_
    refine r_move (k := ?_)
    refine r_fieldAddr (k := ?_)
    refine r_load_one (k := ?_)
    refine r_len (k := ?_)
    refine r_lss (k := ?_)
    refine sl_nil ?_
    refine sp_then ?_
    refine w_re (t := 41) (v' := vb false) rfl rfl ?_
    refine swd_f (h := ?_)
    refine sw_exit ?_
    refine sp_then_exit ?_
    refine sp_loop_exit ?_
    refine sp_block_exit ?_
    refine sp_then ?_
    refine sw_region ?_
    refine r_move (k := ?_)
    refine r_fieldAddr (k := ?_)
    refine r_store1 (k := ?_)
    refine sl_nil ?_
    refine sp_block ?_
    refine sp_then ?_
    refine sw_region ?_
    refine r_move (k := ?_)
    refine r_add64 (k := ?_)
    refine r_assign (k := ?_)
    refine sl_nil ?_
    refine sp_drop rfl ?_
    refine sp_loop (ι := { q : Nat × Option Addr × Nat // q.1 ≤ d.cache.xs.length ∧ q.2.2 ≤ maxLen }) ⟨(i + 1, none, 0), by dsimp only; omega, Nat.zero_le _⟩ ?_ ?_
    · dsimp only; omega
    · dsimp only
      rw [enext]
      exact Ent.mk' (by repeat' (first | trivial | exact rfl | apply And.intro)) (by repeat' (first | trivial | exact .head _ | apply And.intro | apply List.Mem.tail))
  have h := of_decide_eq_false h
  obtain rfl : i = d.cache.xs.length := by omega
  rw [List.take_length]
  have hPl : (pagesAt d.pages.xs d.cache.xs).length = d.pages.xs.length := pagesAt_len _ _
  refine sw_exit ?_
  refine sp_then_exit ?_
  refine sp_loop_exit ?_
  refine sp_block_exit ?_
  refine sp_then ?_
  refine sw_seq ?_
  refine sw_region ?_
  refine r_fieldAddr (k := ?_)
  refine r_store1 (k := ?_)
  refine sl_nil ?_
  refine sp_then ?_
  refine sw_seq ?_
  refine sw_region ?_
  refine r_load_all (k := ?_)
  refine r_store_all (k := ?_)
  refine r_assign (k := ?_)
  refine sl_nil ?_
  refine sp_then ?_
  refine sw_ret ?_
  refine sp_freeze ?_
  refine sp_of_sl (fun h => f_have (φ := Res.mem (some ⟨b, 0, none⟩) (pgsV (pagesAt d.pages.xs d.cache.xs))) (fun V w hw => by
    have := mem_take (k := (pgsV (pagesAt d.pages.xs d.cache.xs)).length) (hw _ (.head _))
    rwa [List.take_left] at this) h) ?_
  refine sp_of_sl (fun h => f_have (φ := Res.mem none (wrsV [])) (fun V w hw i v hv => by simp [wrsV] at hv) h) ?_
  refine sp_of_sl (fun h => f_have (φ := Res.mem ba' (isV [])) (fun V w hw i v hv => by simp [isV] at hv) h) ?_
  refine sp_ret2 rfl rfl (.agg rfl (tz rfl) rfl (.tail _ (.head _))) (.tmp rfl) rfl rfl ⟨rfl, ⟨⟨some ⟨b, 0, none⟩, cap, pagesAt d.pages.xs d.cache.xs⟩, ⟨none, 0, []⟩, ⟨ba', cap', []⟩, d.off⟩, by simp [DiskV.v, DiskV.cs, Sl.v, hPl], ⟨⟨by rw [hPl]; exact q1, q2⟩, ⟨Nat.le_refl _, Nat.zero_le _⟩, ⟨Nat.zero_le _, hcm⟩, flush_fine hd.f⟩, rfl, rfl⟩ (by simp) rfl (PhAll.all (by repeat' (first | trivial | exact .head _ | apply And.intro | apply List.Mem.tail)))

theorem c_flushed (G : Res) (d : DiskV) (hd : d.ok) (ho : d.off = false) (hb : d.bad.xs = []) : Ctr Tryd.prog G 35 [d.v] [] [d.rp, d.rc, d.rb] (retFz d.pure.flush) := by
  refine Ctr.intro Tryd.func35 (by kernel_rfl) rfl Tryd.ntmps35 rfl rfl rfl fun w' X => ?_
  refine sw_seq ?_
  refine sw_region ?_
  refine r_box (cs := d.cs) (by exact rfl) rfl (by exact rfl) fun b1 => ?_
  refine r_alloc (by exact z60) (by exact rfl) (by exact rfl) fun b2 => ?_
  refine sl_nil ?_
  refine sp_then ?_
  refine sw_seq ?_
  refine sw_region ?_
  refine r_load_all (k := ?_)
  refine r_callF (c_r3flush G d hd ho hb) (by exact rfl) (by exact rfl) (by exact rfl) (PhAll.all (by repeat' (first | trivial | exact .head _ | apply And.intro | apply List.Mem.tail))) (by exact rfl) ?_
  rintro _ _ ⟨x, rfl, hx, hxp, rfl⟩
  refine r_move (k := ?_)
  refine r_ext (k := ?_)
  refine r_ext (k := ?_)
  refine r_alloc (by exact z60) (by exact rfl) (by exact rfl) fun b3 => ?_
  refine r_store_all (k := ?_)
  refine r_assign (k := ?_)
  refine sl_nil ?_
  refine sp_then ?_
  refine sw_seq ?_
  refine sw_region ?_
  refine r_load_all (k := ?_)
  refine r_store_all (k := ?_)
  refine sl_nil ?_
  refine sp_then ?_
  refine sw_ret ?_
  refine sp_retv rfl rfl (.agg rfl (tz rfl) rfl (.tail _ (.head _))) rfl rfl ⟨rfl, x, rfl, hx, hxp, rfl⟩ (by simp) rfl (PhAll.all (by repeat' (first | trivial | exact .head _ | apply And.intro | apply List.Mem.tail)))
end Go.Proofs.YtjahiohlekdhoaaDoor

namespace Go.Proofs.YtjahiohlekdhoaaDoor
open Go
set_option maxHeartbeats 4000000
set_option maxRecDepth 4000
attribute [local irreducible] SW SL SP RA Then FQ IQ LoopQ RQ AQ NX CutQ Exit.noGoto

def DiskP.spoil (d : DiskP) (n : Nat) : DiskP := { d with bad := [(n : Int)] }
theorem spoil_fine {d : DiskP} (h : d.fine) {n : Nat} (hn : n < d.pages.length) : (d.spoil n).fine := ⟨h.n0, h.n1, h.c, h.pg, h.cd, h.ca, .inr ⟨n, rfl, by omega, by show (n : Int) < (d.pages.length : Int); omega⟩, h.of⟩
theorem c_spoil (G : Res) (d : DiskV) (hd : d.ok) (hb : d.bad.xs = []) (n : Nat) (hn : n < d.pages.xs.length) : Ctr Tryd.prog G 39 [d.v, vi (n : Int)] [] [d.rp, d.rc, d.rb] (retD (d.pure.spoil n)) := by
  have hn1 : d.pages.xs.length ≤ 64 := hd.f.n1
  refine Ctr.intro Tryd.func39 (by kernel_rfl) rfl Tryd.ntmps39 rfl rfl rfl fun w' X => ?_
  refine sw_seq ?_
  refine sw_region ?_
  refine r_box (cs := d.cs) (by exact rfl) rfl (by exact rfl) fun b2 => ?_
  refine r_alloc (by exact z60) (by exact rfl) (by exact rfl) fun b4 => ?_
  refine r_assign (k := ?_)
  refine sl_nil ?_
  refine sp_then ?_
  refine sw_seq ?_
  refine sw_region ?_
  refine r_load_all (k := ?_)
  refine r_call (Bp := []) (c_own G d hd) (by exact rfl) (by exact rfl) (by exact rfl) (PhAll.all (by repeat' (first | trivial | exact .head _ | apply And.intro | apply List.Mem.tail))) (by exact rfl) ?_
  rintro _ _ _ ⟨v1, v2, v3, ⟨h1, g1⟩, ⟨h2, g2⟩, ⟨h3, g3⟩, rfl, rfl, rfl⟩
  refine r_alloc (by exact z60) (by exact rfl) (by exact rfl) fun b6 => ?_
  refine r_store_all (cs := [.slice none 0 0, .slice none 0 0, .slice none 0 0, vb false]) (vs := [v1, v2, v3, vb d.off]) (by exact tz rfl) (by exact rfl) (by exact rfl) (by iterate 24 (first | exact .hd | apply Upd.tl | skip)) rfl rfl (by rw [List.all_cons, g1, List.all_cons, g2, List.all_cons, g3]; rfl) rfl ?_
  refine o_pull 3 rfl ?_
  refine o_drop rfl ?_
  dsimp only [rowsD, pull, List.drop, List.take, List.cons_append, List.nil_append, List.append]
  refine sl_nil ?_
  refine sp_then ?_
  refine sw_seq ?_
  refine sw_seq ?_
  refine sw_region ?_
  refine r_move (k := ?_)
  refine r_lss (k := ?_)
  refine r_move (k := ?_)
  refine r_re (t := 14) (v' := vb false) rfl (by rw [decide_eq_false (by omega)]) ?_
  refine gd_yes (k := ?_)
  refine r_move (k := ?_)
  refine gd_yes (k := ?_)
  refine r_fieldAddr (k := ?_)
  refine gd_yes (k := ?_)
  refine r_load_one (k := ?_)
  refine gd_yes (k := ?_)
  refine r_len (k := ?_)
  refine gd_yes (k := ?_)
  refine r_geq (k := ?_)
  refine rd_pick_f (k := ?_)
  refine sl_nil ?_
  refine sp_then ?_
  refine w_re (t := 20) (v' := vb false) rfl (by rw [decide_eq_false (by omega)]) ?_
  refine swd_f (h := ?_)
  refine sw_skip ?_
  refine sp_then ?_
  refine sw_seq ?_
  refine sw_region ?_
  refine r_assign (k := ?_)
  refine sl_nil ?_
  refine sp_then ?_
  refine sw_seq ?_
  refine sw_region ?_
  refine r_assign (k := ?_)
  refine sl_nil ?_
  refine sp_then ?_
  refine sw_seq ?_
  refine sw_seq ?_
  refine sw_region ?_
  refine r_assign (k := ?_)
  refine sl_nil ?_
  refine sp_then ?_
  refine sw_block ?_
  refine sw_loop (ι := Unit) (fun _ => [(1, vi (n : Int)), (2, .pointer (some ⟨b2, 0, none⟩)), (4, .pointer (some ⟨b4, 0, none⟩)), (6, .pointer (some ⟨b6, 0, none⟩)), (7, .slice none 0 0), (8, vb false), (9, vi 0)]) (fun _ => [.box b6 [v1, v2, v3, vb d.off] 60, .row v1 d.pages.xs.length (pgsV d.pages.xs) 37 256, .row v2 d.cache.xs.length (wrsV d.cache.xs) 147 257, .box b4 [.slice none 0 0, .slice none 0 0, .slice none 0 0, vb false] 60, .box b2 d.cs 60]) (fun _ => []) (fun _ => []) (fun _ => 0) () ?_ fun _ => ?_
  · exact Ent.mk' (by repeat' (first | trivial | exact rfl | apply And.intro)) (by repeat' (first | trivial | exact .head _ | apply And.intro | apply List.Mem.tail))
  refine sw_seq ?_
  refine sw_seq ?_
  refine sw_region ?_
  refine r_move (k := ?_)
  refine r_fieldAddr (k := ?_)
  refine r_load_one (k := ?_)
  refine r_len (k := ?_)
  refine r_lss (k := ?_)
  refine sl_nil ?_
  refine sp_then ?_
  refine w_re (t := 26) (v' := vb false) rfl (by rw [hb]; rfl) ?_
  refine swd_f (h := ?_)
  refine sw_exit ?_
  refine sp_then_exit ?_
  refine sp_loop_exit ?_
  refine sp_block_exit ?_
  refine sp_then ?_
  refine sw_seq ?_
  refine sw_seq ?_
  refine sw_region ?_
  refine r_move (k := ?_)
  refine r_not (k := ?_)
  refine sl_nil ?_
  refine sp_then ?_
  refine swd_t (h := ?_)
  refine sw_region ?_
  refine r_move (k := ?_)
  refine r_move (k := ?_)
  refine r_lit (vs := [vi (n : Int)]) (xs := [.tmp 62]) (cells := isV [(n : Int)]) (by exact tl rfl) (by exact z3) rfl rfl (fun v hv => by rw [List.mem_singleton.1 hv]; rfl) (by simp) (by simp) (by exact rfl) (by simp [isV, Value.cells]) (by exact rfl) fun l => ?_
  refine o_row fun ba cap e1 _ _ _ => ?_
  cases e1
  refine o_nil 3 1 ?_
  refine r_append (n := 0) (xs := []) (mm := 1) (news := isV [(n : Int)]) (by exact tl rfl) (by exact z3) (by kernel_rfl) rfl (by exact rfl) (by exact rfl) (by iterate 24 (first | exact .head _ | apply List.Mem.tail | skip)) (by simp [isV]) (isV_one _) (by omega) (by omega) (by exact rfl) fun v4 h4 g4 => ?_
  refine r_assign (k := ?_)
  refine sl_nil ?_
  refine sp_then ?_
  refine sw_seq ?_
  refine sw_region ?_
  refine r_move (k := ?_)
  refine r_fieldAddr (k := ?_)
  refine r_store1 (k := ?_)
  refine sl_nil ?_
  refine sp_then ?_
  refine sw_seq ?_
  refine sw_region ?_
  refine r_load_all (k := ?_)
  refine r_store_all (cs := [.slice none 0 0, .slice none 0 0, .slice none 0 0, vb false]) (vs := [v1, v2, v4, vb d.off]) (by exact tz rfl) (by exact rfl) (by exact rfl) (by iterate 24 (first | exact .hd | apply Upd.tl | skip)) rfl rfl (by rw [List.all_cons, g1, List.all_cons, g2, List.all_cons, g4]; rfl) rfl ?_
  refine o_pull 2 rfl ?_
  refine o_pull 3 rfl ?_
  refine o_pull 1 rfl ?_
  refine o_disk (p := v1) (q := v2) (r := v4) (d := d.pure.spoil n) (spoil_fine hd.f hn) fun x hx hxp p1 p2 p3 => ?_
  subst p1 p2 p3
  have hxo : x.off = d.off := congrArg DiskP.off hxp
  refine r_assign (k := ?_)
  refine sl_nil ?_
  refine sp_then ?_
  refine sw_ret ?_
  refine sp_ret2 rfl rfl (.agg rfl (tz rfl) rfl (.tail _ (.head _))) (.tmp rfl) rfl rfl ⟨rfl, x, by rw [DiskV.v, DiskV.cs, hxo], hx, hxp, rfl⟩ (by simp) rfl (PhAll.all (by repeat' (first | trivial | exact .head _ | apply And.intro | apply List.Mem.tail)))
end Go.Proofs.YtjahiohlekdhoaaDoor

namespace Go.Proofs.YtjahiohlekdhoaaDoor
open Go

def half (A : List AncV) (k : Bool) : List AncV := (A.drop (bN k * 4)).take 4
theorem half_len {A : List AncV} (hA : A.length = 8) (k : Bool) : (half A k).length = 4 := by
  unfold half; rw [List.length_take, List.length_drop, hA]; cases k <;> rfl
theorem half_row {A : List AncV} (hA : A.length = 8) (k : Bool) : part' (ancsV A) (bN k * 56) 56 = ancsV (half A k) := by
  rw [part', show bN k * 56 = (bN k * 4) * 14 by omega, ancsV_drop]
  have h1 : ancsV (A.drop (bN k * 4)) = ancsV (half A k) ++ ancsV ((A.drop (bN k * 4)).drop 4) := by rw [half, ancsV, ancsV, ancsV, ← List.flatMap_append, List.take_append_drop]
  have h2 : (ancsV (half A k)).length = 56 := by rw [ancsV_len, half_len hA]
  rw [h1, ← h2, List.take_left]
theorem half_at {A : List AncV} (hA : A.length = 8) (k : Bool) {m : Nat} (hm : m < 4) : part' (ancsV (half A k)) (m * 14) 14 = (atA A k m).cs := by
  have hl := half_len hA k
  have hj : bN k * 4 + m < A.length := by rw [hA]; cases k <;> simp [bN] <;> omega
  rw [ancsV_at (half A k) m (by omega)]
  congr 1
  unfold half atA
  rw [List.getElem_take, List.getElem_drop, List.getD_eq_getElem?_getD, List.getElem?_eq_getElem hj]
  rfl
def cntN (L : Nat → Nat) : Nat → Nat
  | 0 => 0
  | j + 1 => cntN L j + if 0 < L j then 1 else 0
theorem cntN_le (L : Nat → Nat) : ∀ j, cntN L j ≤ j
  | 0 => Nat.le_refl _
  | j + 1 => by have := cntN_le L j; unfold cntN; split <;> omega
def txL (A : List AncV) (j : Nat) : Nat := (A.getD j zeroA).tx.toNat
/-- The slots' anchors of the law. -/
def oneT (n : Nat) (t : UInt32) (m : Nat) : AncP := if m = (t % 4).toNat then (plainA t (UInt16.ofNat n) 3 t).pure else AncP.zero
theorem one_cnt {A : List AncV} {t : UInt32} (ht : 0 < t.toNat) (h : ∀ b m, m < 4 → (atA A b m).tx.toNat = if m = (t % 4).toNat then t.toNat else 0) : cntN (txL A) 8 = 2 := by
  have h4 := mod4 t
  have e : ∀ b m, m < 4 → txL A (bN b * 4 + m) = if m = (t % 4).toNat then t.toNat else 0 := fun b m hm => h b m hm
  have e0 := e false 0 (by decide)
  have e1 := e false 1 (by decide)
  have e2 := e false 2 (by decide)
  have e3 := e false 3 (by decide)
  have e4 := e true 0 (by decide)
  have e5 := e true 1 (by decide)
  have e6 := e true 2 (by decide)
  have e7 := e true 3 (by decide)
  simp only [bN, Bool.false_eq_true, if_false, if_true, Nat.zero_mul, Nat.one_mul, Nat.zero_add, Nat.reduceAdd] at e0 e1 e2 e3 e4 e5 e6 e7
  simp only [cntN, e0, e1, e2, e3, e4, e5, e6, e7]
  generalize (t % 4).toNat = m at *
  obtain rfl | rfl | rfl | rfl : m = 0 ∨ m = 1 ∨ m = 2 ∨ m = 3 := by omega
  all_goals simp [ht]
theorem one_an (n : Nat) (t : UInt32) (ht : 0 < t.toNat) : anT (oneT n t) (fun m => if m = (t % 4).toNat then t.toNat else 0) := fun m _ => by
  unfold oneT
  dsimp only
  by_cases e : m = (t % 4).toNat
  · rw [if_pos e, if_pos e]; exact ⟨rfl, fun _ => rfl⟩
  · rw [if_neg e, if_neg e]; exact ⟨rfl, fun h => absurd rfl h⟩
theorem slot_off {d : DiskP} (h : d.off = true) (m : Nat) : d.slot m = AncP.zero := by unfold DiskP.slot; rw [if_pos h]
theorem slot_spoilt {d : DiskP} (h : d.cache = []) (m : Nat) : (d.spoil m).slot m = AncP.zero := by
  have hr : (d.spoil m).read m = (List.replicate 256 0, 31) := by
    unfold DiskP.read
    rw [show (d.spoil m).cache = [] from h]
    show (if hasN [(m : Int)] (m : Int) then _ else _) = _
    rw [if_pos (by simp [hasN])]
  unfold DiskP.slot
  split
  · rfl
  · rw [hr, if_neg (by decide)]
/-- An anchor of another size is none. -/
theorem slot_wrong {d : DiskP} (hz : ∀ m, m < 4 → d.slot m = AncP.zero) (ho : d.off = false) (a : AncV) (hs : ¬ a.size.toNat = d.pages.length) {m : Nat} (hm : m < 4) : (d.put a true).slot m = AncP.zero := by
  by_cases hr : a.right = true
  · have he : encV a = (a.page, 0) := by unfold encV; rw [if_pos hr]
    unfold DiskP.put
    rw [he, if_pos ⟨rfl, ho, rfl⟩]
    by_cases h : m = (a.tx % 4).toNat
    · subst h
      unfold DiskP.slot
      rw [read_write, if_pos rfl, page_decP a hr, if_neg (by show ¬ d.off = true; rw [ho]; decide), if_pos rfl, if_neg]
      rintro ⟨_, h⟩
      simp only [fitsS, Bool.and_eq_true, decide_eq_true_eq] at h
      exact hs h.2
    · rw [slot_write _ _ _ _ fun e => h e.symm]; exact hz m hm
  · unfold DiskP.put
    rw [if_neg, hz m hm]
    rintro ⟨h, _⟩
    unfold encV at h
    rw [if_neg hr] at h
    cases h
theorem none_sym {p : PairV} (h : ∀ b m, m < 4 → (p.get b).pure.slot m = AncP.zero) {A : List AncV} (hA : A.map AncV.pure = (List.range 4).map p.d0.pure.slot ++ (List.range 4).map p.d1.pure.slot) : A.length = 8 ∧ Sym A fun _ => 0 := by
  refine ⟨by have := congrArg List.length hA; simpa using this, fun b m hm => ?_⟩
  have e := at_get hA b hm
  rw [h b m hm] at e
  have e3 : (atA A b m).tx = 0 := congrArg AncP.tx e
  exact ⟨by rw [e3]; rfl, fun h => absurd rfl h⟩
end Go.Proofs.YtjahiohlekdhoaaDoor

namespace Go.Proofs.YtjahiohlekdhoaaDoor
open Go
set_option maxHeartbeats 4000000
set_option maxRecDepth 4000
attribute [local irreducible] SW SL SP RA Then FQ IQ LoopQ RQ AQ NX CutQ Exit.noGoto

def wrN (d : DiskP) (pg : Nat → List UInt8) : Nat → DiskP
  | 0 => d
  | k + 1 => (wrN d pg k).write (k : Int) (pg k)
def pgV (A : List AncV) (k : Nat) : List UInt8 := if voidA A false k = true then zeros 256 else pgOf (atA A false k)
theorem pgV_len (A : List AncV) (k : Nat) : (pgV A k).length = 256 := by
  unfold pgV; split
  · exact List.length_replicate
  · exact pgOf_len _
theorem wrN_same (d : DiskP) (pg : Nat → List UInt8) : ∀ k, (wrN d pg k).off = d.off ∧ (wrN d pg k).bad = d.bad ∧ (wrN d pg k).pages = d.pages ∧ (wrN d pg k).cache.length = d.cache.length + k
  | 0 => ⟨rfl, rfl, rfl, rfl⟩
  | k + 1 => by
    obtain ⟨h1, h2, h3, h4⟩ := wrN_same d pg k
    exact ⟨h1, h2, h3, by show ((wrN d pg k).cache ++ _).length = _; rw [List.length_append, h4]; rfl⟩
theorem wrN_fine {d : DiskP} (h : d.fine) (ho : d.off = false) (hc : d.cache.length < 900) (A : List AncV) : ∀ k, k ≤ 4 → (wrN d (pgV A) k).fine
  | 0, _ => h
  | k + 1, hk => by
    have h32 := h.n0
    obtain ⟨h1, h2, h3, h4⟩ := wrN_same d (pgV A) k
    exact write_fine (wrN_fine h ho hc A k (by omega)) (by rw [h1]; exact ho) (by omega) (by omega) (by rw [h3]; omega) (pgV_len A k)
theorem wrN_read (d : DiskP) (pg : Nat → List UInt8) : ∀ k m, m < k → (wrN d pg k).read m = (pg m, 0)
  | 0, m, h => absurd h (Nat.not_lt_zero _)
  | k + 1, m, h => by
    show ((wrN d pg k).write (k : Int) (pg k)).read m = _
    rw [read_write]
    by_cases e : k = m
    · subst e; rw [if_pos rfl]
    · rw [if_neg e]; exact wrN_read d pg k m (by omega)
/-- What is known between two slots renewed. -/
structure RenI (p : PairV) (A : List AncV) (n : Nat) (s : PairV) : Prop where
  o0 : s.d0.ok
  o1 : s.d1.ok
  e0 : s.d0.pure = p.d0.pure
  e1 : s.d1.pure = wrN p.d1.pure (pgV A) n
theorem c_renew1 (p : PairV) (h0 : p.d0.ok) (h1 : p.d1.ok) (f0 : p.d0.off = false) (f1 : p.d1.off = false) (b0 : p.d0.bad.xs = []) (b1 : p.d1.bad.xs = []) (hc1 : p.d1.cache.xs.length < 900) :
    Ctr Tryd.prog GW 37 [p.v, vi 1] [] p.ress (retF fun v Φ' => ∃ (A : List AncV) (s : PairV), v = .tuple #[s.v, vi 0] ∧ A.map AncV.pure = (List.range 4).map p.d0.pure.slot ++ (List.range 4).map p.d1.pure.slot ∧ (∀ b, (s.get b).ok) ∧ s.d0.pure = p.d0.pure.flush ∧ s.d1.pure = (wrN p.d1.pure (pgV A) 4).flush ∧ Φ' = s.ress) := by
  have hlv : liveN p = 3 := by unfold liveN; rw [f0, f1]; rfl
  refine Ctr.intro Tryd.func37 (by kernel_rfl) rfl Tryd.ntmps37 rfl rfl rfl fun w' X => ?_
  refine sw_seq ?_
  refine sw_region ?_
  refine r_box (cs := p.cs) (by exact rfl) rfl (by exact rfl) fun b2 => ?_
  refine r_alloc (by exact z63) (by exact rfl) (by exact rfl) fun b4 => ?_
  refine r_assign (k := ?_)
  refine sl_nil ?_
  refine sp_then ?_
  refine sw_seq ?_
  refine sw_block ?_
  refine sw_seq ?_
  refine sw_region ?_
  refine r_move (k := ?_)
  refine r_lss (k := ?_)
  refine r_move (k := ?_)
  refine r_re (t := 13) (v' := vb false) rfl rfl ?_
  refine gd_yes (k := ?_)
  refine r_move (k := ?_)
  refine gd_yes (k := ?_)
  refine r_gtr (k := ?_)
  refine rd_pick_f (k := ?_)
  refine r_assign (k := ?_)
  refine sl_nil ?_
  refine sp_then ?_
  refine w_re (t := 10) (v' := vb false) rfl rfl ?_
  refine swd_f (h := ?_)
  refine sw_seq ?_
  refine sw_region ?_
  refine r_fieldAddr (k := ?_)
  refine r_load_one (k := ?_)
  refine r_assign (k := ?_)
  refine sl_nil ?_
  refine sp_then ?_
  refine swd_f (h := ?_)
  refine sw_seq ?_
  refine sw_region ?_
  refine r_load_all (k := ?_)
  refine r_call1 (c_live GW p) (by exact rfl) (by exact rfl) (by exact rfl) (by simp) (by exact rfl) ?_
  refine r_neq (k := ?_)
  refine r_assign (k := ?_)
  refine sl_nil ?_
  refine sp_then ?_
  refine w_re (t := 22) (v' := vb false) rfl (by rw [hlv]; rfl) ?_
  refine swd_f (h := ?_)
  refine sw_skip ?_
  refine sp_block ?_
  refine sp_then ?_
  refine sw_seq ?_
  refine sw_region ?_
  refine r_load_all (k := ?_)
  refine r_callF (c_slots p h0 h1) (by exact rfl) (by exact rfl) (by exact rfl) (fun φ h => h) (by exact rfl) ?_
  rintro _ _ ⟨A, rfl, hA, hko, rfl⟩
  have hA8 : A.length = 8 := by have := congrArg List.length hA; simpa using this
  have hl : (ancsV A).length = 112 := by rw [ancsV_len, hA8]
  refine r_alloc (v := .agg (ancsV (List.replicate 8 zeroA)).toArray) (by kernel_rfl) (cs := ancsV (List.replicate 8 zeroA)) rfl (by exact rfl) fun b6 => ?_
  refine r_store_all (cs := ancsV (List.replicate 8 zeroA)) (vs := ancsV A) (by exact tz rfl) (by exact rfl) (by exact rfl) (by iterate 24 (first | exact .hd | apply Upd.tl | skip)) rfl hl (ancsV_one A) rfl ?_
  refine sl_nil ?_
  refine sp_then ?_
  refine sw_seq ?_
  refine sw_region ?_
  refine r_load_all (k := ?_)
  refine r_store_all (k := ?_)
  refine sl_nil ?_
  refine sp_then ?_
  refine sw_seq ?_
  refine sw_seq ?_
  refine sw_region ?_
  refine r_move (k := ?_)
  refine r_sub64 (k := ?_)
  refine r_idx_arr (k := ?_)
  refine r_load_agg (vs := ancsV (half A false)) (by exact tz rfl) (by exact rfl) (by iterate 24 (first | exact .head _ | apply List.Mem.tail | skip)) (by exact half_row hA8 false) (by rw [ancsV_len, half_len hA8]) (by exact rfl) ?_
  refine r_move (k := ?_)
  refine sl_nil ?_
  refine sp_then ?_
  refine sw_block ?_
  refine sw_loop (ι := { q : Nat × PairV // q.1 ≤ 4 ∧ RenI p A q.1 q.2 }) (fun q => [(1, vi 1), (4, .pointer (some ⟨b4, 0, none⟩)), (5, vi 0), (6, .pointer (some ⟨b6, 0, none⟩)), (33, .agg (ancsV (half A false)).toArray), (34, vi (q.1.1 : Int))])
    (fun q => [.box b6 (ancsV A) 73, .box b4 q.1.2.cs 63, .box b2 p.cs 63]) (fun q => [keysR A, q.1.2.d0.rp, q.1.2.d0.rc, q.1.2.d0.rb, q.1.2.d1.rp, q.1.2.d1.rc, q.1.2.d1.rb]) (fun _ => []) (fun q => 4 - q.1.1) ⟨(0, p), by dsimp only; omega, h0, h1, rfl, rfl⟩ ?_ fun q => ?_
  · exact Ent.mk' (by repeat' (first | trivial | exact rfl | apply And.intro)) (by repeat' (first | trivial | exact .head _ | apply And.intro | apply List.Mem.tail))
  obtain ⟨⟨k, s⟩, hk, hs⟩ := q
  dsimp only at hk hs ⊢
  refine sw_seq ?_
  refine sw_region ?_
  refine r_lss (k := ?_)
  refine sl_nil ?_
  refine sp_then ?_
  refine sw_seq ?_
  refine sw_cond rfl (fun h => ?_) (fun h => ?_)
  · have h := of_decide_eq_true h
    have hk' : k < 4 := by omega
    obtain ⟨y, ey⟩ : ∃ y, y = atA A false k := ⟨_, rfl⟩
    have hyA : y ∈ A := by
      rw [ey, atA, List.getD_eq_getElem?_getD, List.getElem?_eq_getElem (by simp [bN]; omega)]
      exact List.getElem_mem _
    refine sw_skip ?_
    refine sp_then ?_
    refine sw_seq ?_
    refine sw_block ?_
    refine sw_seq ?_
    refine sw_region ?_
    refine r_move (k := ?_)
    refine r_indexA (vs := y.cs) (i := k) (by exact ta rfl) (by exact tz rfl) (by exact rfl) (by exact rfl) (by omega) (by omega) (Int.toNat_natCast k) (by rw [ey]; exact half_at hA8 false hk') rfl (by exact rfl) ?_
    refine r_alloc (by exact z32) (cs := zeroA.cs) (by kernel_rfl) (by exact rfl) fun b8 => ?_
    refine r_assign (k := ?_)
    refine r_store_all (k := ?_)
    refine sl_nil ?_
    refine sp_then ?_
    refine sw_seq ?_
    refine sw_region ?_
    refine r_alloc (by exact z37) (cs := bv (zeros 256)) (by kernel_rfl) (by exact rfl) fun b9 => ?_
    refine sl_nil ?_
    refine sp_then ?_
    refine sw_cut [(1, vi 1), (4, .pointer (some ⟨b4, 0, none⟩)), (5, vi 0), (6, .pointer (some ⟨b6, 0, none⟩)), (7, vi (k : Int)), (9, .pointer (some ⟨b9, 0, none⟩)), (33, .agg (ancsV (half A false)).toArray), (34, vi (k : Int))]
      [.box b9 (bv (pgV A k)) 37, .box b8 y.cs 32, .box b6 (ancsV A) 73, .box b4 s.cs 63, .box b2 p.cs 63] [keysR A, s.d0.rp, s.d0.rc, s.d0.rb, s.d1.rp, s.d1.rc, s.d1.rb] [] ?_ ?_
    · refine sw_seq ?_
      refine sw_region ?_
      refine r_fieldAddr (k := ?_)
      refine r_load_one (k := ?_)
      refine r_gtr (k := ?_)
      refine r_move (k := ?_)
      by_cases hz : y.tx.toNat = 0
      · have e : pgV A k = zeros 256 := by
          unfold pgV; split
          · rfl
          · rw [pgOf, ← ey, if_pos hz]
        refine r_re (t := 41) (v' := vb false) rfl (by simp [hz]) ?_
        refine gd_no (k := ?_)
        refine gd_no (k := ?_)
        refine gd_no (k := ?_)
        refine gd_no (k := ?_)
        refine gd_no (k := ?_)
        refine gd_no (k := ?_)
        refine rd_pick_f (k := ?_)
        refine sl_nil ?_
        refine sp_then ?_
        refine swd_f (h := ?_)
        refine sw_skip ?_
        exact sp_cutB (by repeat' (first | trivial | exact rfl | apply And.intro)) (by repeat' (first | trivial | exact .head _ | apply And.intro | apply List.Mem.tail)) (by rw [e])
      refine r_re (t := 41) (v' := vb true) rfl (by simp; omega) ?_
      refine gd_yes (k := ?_)
      refine r_load_all (cs := ancsV A) (by exact tz rfl) (by exact rfl) (by iterate 24 (first | exact .head _ | apply List.Mem.tail | skip)) hl (by exact rfl) ?_
      refine gd_yes (k := ?_)
      refine r_move (k := ?_)
      refine gd_yes (k := ?_)
      refine r_sub64 (k := ?_)
      refine gd_yes (k := ?_)
      refine r_move (k := ?_)
      refine gd_yes (k := ?_)
      refine r_call1 (c_void GW A hA8 false k hk') (by exact rfl) (by exact rfl) (by exact rfl) (by simp) (by exact rfl) ?_
      refine gd_yes (k := ?_)
      refine r_not (k := ?_)
      refine rd_pick_t (k := ?_)
      refine sl_nil ?_
      refine sp_then ?_
      cases hv : voidA A false k
      · have e : pgV A k = (encV y).1 := by unfold pgV; rw [if_neg (by rw [hv]; decide), pgOf, ← ey, if_neg hz]
        have hpl : (bv (encV y).1).length = 256 := by rw [bv_len, encV_len]
        refine w_re (t := 48) (v' := vb true) rfl rfl ?_
        refine swd_t (h := ?_)
        refine sw_region ?_
        refine r_load_all (k := ?_)
        refine f_have (φ := y.mark.key.res) (fun V w hw => hw (keysR A) (.head _) _ hyA) ?_
        refine r_call1 (c_encode y (hko y hyA)) (by exact rfl) (by exact rfl) (by exact rfl) (PhAll.all (by repeat' (first | trivial | exact .head _ | apply And.intro | apply List.Mem.tail))) (by exact rfl) ?_
        refine r_move (k := ?_)
        refine r_ext (k := ?_)
        refine r_ext (k := ?_)
        refine r_store_all (cs := bv (zeros 256)) (vs := bv (encV y).1) (by exact tz rfl) (by exact rfl) (by exact rfl) (by iterate 24 (first | exact .hd | apply Upd.tl | skip)) rfl hpl (bv_one _) rfl ?_
        refine sl_nil ?_
        exact sp_cutB (by repeat' (first | trivial | exact rfl | apply And.intro)) (by repeat' (first | trivial | exact .head _ | apply And.intro | apply List.Mem.tail)) (by rw [e])
      · have e : pgV A k = zeros 256 := by unfold pgV; rw [if_pos hv]
        refine w_re (t := 48) (v' := vb false) rfl rfl ?_
        refine swd_f (h := ?_)
        refine sw_skip ?_
        exact sp_cutB (by repeat' (first | trivial | exact rfl | apply And.intro)) (by repeat' (first | trivial | exact .head _ | apply And.intro | apply List.Mem.tail)) (by rw [e])
    have hpl : (bv (pgV A k)).length = 256 := by rw [bv_len, pgV_len]
    obtain ⟨w1, w2, w3, w4⟩ := wrN_same p.d1.pure (pgV A) k
    have hso : s.d1.off = false := (congrArg DiskP.off hs.e1).trans (w1.trans f1)
    have hsn : 32 ≤ s.d1.pages.xs.length := hs.o1.f.n0
    have hsc : s.d1.cache.xs.length < 1000 := by
      have e : s.d1.cache.xs.length = p.d1.pure.cache.length + k := (congrArg (fun d => d.cache.length) hs.e1).trans w4
      have e2 : p.d1.pure.cache.length = p.d1.cache.xs.length := rfl
      omega
    refine sw_seq ?_
    refine sw_region ?_
    refine r_load_all (k := ?_)
    refine r_move (k := ?_)
    refine r_move (k := ?_)
    refine r_load_all (cs := bv (pgV A k)) (by exact tz rfl) (by exact rfl) (by iterate 24 (first | exact .head _ | apply List.Mem.tail | skip)) hpl (by exact rfl) ?_
    refine r_callF (c_mput GW s true hs.o1 hso (k : Int) (pgV A k) (by omega) (by show (k : Int) < (s.d1.pages.xs.length : Int); omega) (pgV_len A k) hsc) (by exact rfl) (by exact rfl) (by exact rfl) (PhAll.all (by repeat' (first | trivial | exact .head _ | apply And.intro | apply List.Mem.tail))) (by exact rfl) ?_
    rintro _ _ ⟨x, rfl, hx, hxp, rfl⟩
    refine r_move (k := ?_)
    refine r_ext (k := ?_)
    refine r_ext (k := ?_)
    refine r_store_all (k := ?_)
    refine r_assign (k := ?_)
    refine sl_nil ?_
    refine sp_then ?_
    refine sw_seq ?_
    refine sw_region ?_
    refine r_move (k := ?_)
    refine r_neq (k := ?_)
    refine sl_nil ?_
    refine sp_then ?_
    refine w_re (t := 63) (v' := vb false) rfl rfl ?_
    refine swd_f (h := ?_)
    refine sw_skip ?_
    refine sp_block ?_
    refine sp_then ?_
    refine sw_region ?_
    refine r_add64 (k := ?_)
    refine r_move (k := ?_)
    refine sl_nil ?_
    refine sp_drop rfl ?_
    refine sp_drop rfl ?_
    refine sp_loop (ι := { q : Nat × PairV // q.1 ≤ 4 ∧ RenI p A q.1 q.2 }) ⟨(k + 1, s.set true x), by dsimp only; omega, hs.o0, hx, hs.e0, by
      show x.pure = _
      rw [hxp, show (s.get true).pure = s.d1.pure from rfl, hs.e1]; rfl⟩ ?_ ?_
    · dsimp only; omega
    · exact Ent.mk' (by repeat' (first | trivial | exact rfl | apply And.intro)) (by repeat' (first | trivial | exact .head _ | apply And.intro | apply List.Mem.tail))
  · have h := of_decide_eq_false h
    obtain rfl : k = 4 := by omega
    obtain ⟨w1, w2, w3, w4⟩ := wrN_same p.d1.pure (pgV A) 4
    have hs0 : s.d0.off = false := (congrArg DiskP.off hs.e0).trans f0
    have hs1 : s.d1.off = false := (congrArg DiskP.off hs.e1).trans (w1.trans f1)
    have hsb0 : s.d0.bad.xs = [] := (congrArg DiskP.bad hs.e0).trans b0
    have hsb1 : s.d1.bad.xs = [] := (congrArg DiskP.bad hs.e1).trans (w2.trans b1)
    refine sw_exit ?_
    refine sp_then_exit ?_
    refine sp_loop_exit ?_
    refine sp_block_exit ?_
    refine sp_then ?_
    refine sw_seq ?_
    refine sw_region ?_
    refine r_load_all (k := ?_)
    refine r_callF (c_mflush GW s hs.o0 hs.o1 (by unfold liveN; rw [hs0, hs1]; decide) hsb0 hsb1) (by exact rfl) (by exact rfl) (by exact rfl) (PhAll.all (by repeat' (first | trivial | exact .head _ | apply And.intro | apply List.Mem.tail))) (by exact rfl) ?_
    rintro _ _ ⟨s', rfl, hs', rfl⟩
    refine r_ext (k := ?_)
    refine r_ext (k := ?_)
    refine r_store_all (k := ?_)
    refine r_assign (k := ?_)
    refine sl_nil ?_
    refine sp_then ?_
    refine sw_ret ?_
    have e0 : s'.d0.pure = p.d0.pure.flush := hs'.e0.trans (by rw [if_pos (by decide), hs.e0]; exact if_pos f0)
    have e1 : s'.d1.pure = (wrN p.d1.pure (pgV A) 4).flush := hs'.e1.trans (by rw [if_pos (by decide), hs.e1]; exact if_pos (w1.trans f1))
    refine sp_ret2 rfl rfl (.agg rfl (tz rfl) rfl (.tail _ (.head _))) (.tmp rfl) rfl rfl ⟨rfl, A, s', rfl, hA, fun b => (hs'.get b).1, e0, e1, rfl⟩ (by simp) rfl (fun φ h => List.mem_append_left _ h)
end Go.Proofs.YtjahiohlekdhoaaDoor

namespace Go.Proofs.YtjahiohlekdhoaaDoor
open Go
set_option maxHeartbeats 4000000
set_option maxRecDepth 4000
attribute [local irreducible] SW SL SP RA Then FQ IQ LoopQ RQ AQ NX CutQ Exit.noGoto

theorem c_plainL (G : Res) (tx : UInt32) (n : Nat) (hn : n ≤ 64) (live : UInt8) (hl : live = 1 ∨ live = 2) (ht : 1 ≤ tx.toNat) : Ctr Tryd.prog G 33 [v32 tx, vi (n : Int), v8 live] [] [] (ret1 (plainA tx (UInt16.ofNat n) live (tx - 1)).v) := by
  have e1 : IntKind.u32.wrap ((tx.toNat : Int) - 1) = ((tx - 1).toNat : Int) := by
    have h1 : (1 : UInt32).toNat = 1 := rfl
    have h2 : (tx - 1).toNat = tx.toNat - 1 := by rw [UInt32.toNat_sub_of_le _ _ (by rw [UInt32.le_iff_toNat_le]; rw [h1]; exact ht), h1]
    have := lt32 tx
    rw [IntKind.wrap_u32, h2]; omega
  refine Ctr.intro Tryd.func33 (by kernel_rfl) rfl Tryd.ntmps33 rfl rfl rfl fun w' X => ?_
  refine sw_seq ?_
  refine sw_region ?_
  refine r_alloc (by exact z32) (cs := zeroA.cs) (by kernel_rfl) (by exact rfl) fun b6 => ?_
  refine sl_nil ?_
  refine sp_then ?_
  refine sw_seq ?_
  refine sw_region ?_
  refine r_move (k := ?_)
  refine r_assign (k := ?_)
  refine sl_nil ?_
  refine sp_then ?_
  refine sw_seq ?_
  refine sw_seq ?_
  refine sw_region ?_
  refine r_move (k := ?_)
  refine r_neq (k := ?_)
  refine r_move (k := ?_)
  refine r_re (t := 11) (v' := vb true) rfl (by rcases hl with h | h <;> rw [h] <;> rfl) ?_
  refine gd_yes (k := ?_)
  refine r_move (k := ?_)
  refine gd_yes (k := ?_)
  refine r_gtr (k := ?_)
  refine rd_pick_t (k := ?_)
  refine sl_nil ?_
  refine sp_then ?_
  refine w_re (t := 14) (v' := vb true) rfl (by simp; omega) ?_
  refine swd_t (h := ?_)
  refine sw_region ?_
  refine r_move (k := ?_)
  refine r_sub (by exact rfl) (by exact rfl) (by exact rfl) ?_
  refine r_re (t := 16) (v' := v32 (tx - 1)) rfl (by rw [e1]) ?_
  refine r_assign (k := ?_)
  refine sl_nil ?_
  refine sp_then ?_
  refine sw_seq ?_
  refine sw_region ?_
  refine r_move (k := ?_)
  refine r_move (k := ?_)
  refine r_cv (r := ((UInt16.ofNat n).toNat : Int)) (by exact ti rfl) (by exact ti rfl) (by exact rfl) (by rw [IntKind.wrap_u16]; simp) (by exact rfl) ?_
  refine r_move (k := ?_)
  refine r_move (k := ?_)
  refine r_buildP (plainA tx (UInt16.ofNat n) live (tx - 1)).cs (parts := [(0, .tmp 17), (1, .tmp 19), (4, .tmp 20), (5, .tmp 21)]) (by exact rfl) (by kernel_rfl) (by exact rfl) ?_
  refine r_store_all (k := ?_)
  refine sl_nil ?_
  refine sp_then ?_
  refine sw_ret ?_
  refine sp_retv rfl rfl (.agg rfl (tz rfl) rfl (.head _)) rfl rfl ⟨rfl, rfl, rfl⟩ (by simp) rfl (by simp)

theorem plain_rightL (tx : UInt32) (n : Nat) (h0 : 32 ≤ n) (h1 : n ≤ 64) (live : UInt8) (hl : live = 1 ∨ live = 2) (ht0 : 1 ≤ tx.toNat) (ht1 : tx.toNat ≤ 1073741824) : (plainA tx (UInt16.ofNat n) live (tx - 1)).right = true := by
  have hn : (UInt16.ofNat n).toNat = n := by simp; omega
  have h2 : (tx - 1).toNat ≤ tx.toNat := by
    have e1 : (1 : UInt32).toNat = 1 := rfl
    rw [UInt32.toNat_sub_of_le _ _ (by rw [UInt32.le_iff_toNat_le]; rw [e1]; exact ht0)]; omega
  have hl3 : 1 ≤ live.toNat ∧ live.toNat ≤ 3 := by rcases hl with h | h <;> rw [h] <;> decide
  have hm : markedV ⟨0, 0, 0, BS.nil⟩ tx = true := by
    simp [markedV, BS.nil]
  unfold AncV.right
  rw [if_pos (show (plainA tx (UInt16.ofNat n) live (tx - 1)).root = PtrV.none from rfl)]
  have e : ∀ q : Prop, [Decidable q] → q → decide q = true := fun q _ h => decide_eq_true h
  unfold AncV.fine
  rw [show (plainA tx (UInt16.ofNat n) live (tx - 1)).mark = ⟨0, 0, 0, BS.nil⟩ from rfl, show (plainA tx (UInt16.ofNat n) live (tx - 1)).tx = tx from rfl, show (plainA tx (UInt16.ofNat n) live (tx - 1)).size = UInt16.ofNat n from rfl, show (plainA tx (UInt16.ofNat n) live (tx - 1)).both = tx - 1 from rfl, show (plainA tx (UInt16.ofNat n) live (tx - 1)).live = live from rfl, hm, hn]
  rw [e _ (show (1 : Int) ≤ (tx.toNat : Int) by omega), e _ (show (tx.toNat : Int) ≤ 1073741824 by omega), e _ (show (32 : Int) ≤ (n : Int) by omega), e _ (show (n : Int) ≤ 256 by omega), e _ (show (1 : Int) ≤ (live.toNat : Int) by omega), e _ (show (live.toNat : Int) ≤ 3 by omega), e _ (show ((tx - 1).toNat : Int) ≤ (tx.toNat : Int) by omega)]
  rfl
/-- Each slot of disk 1 is as disk 0's. -/
theorem renewed {p s : PairV} {A : List AncV} (hA : A.map AncV.pure = (List.range 4).map p.d0.pure.slot ++ (List.range 4).map p.d1.pure.slot) (f0 : p.d0.pure.fine) (f1 : p.d1.pure.fine) (o0 : p.d0.off = false) (o1 : p.d1.off = false) (b0 : p.d0.bad.xs = []) (b1 : p.d1.bad.xs = []) (hl : p.d0.pure.pages.length = p.d1.pure.pages.length) (hc : p.d1.cache.xs.length < 900)
    (hv : ∀ m, m < 4 → voidA A false m = false) (e0 : s.d0.pure = p.d0.pure.flush) (e1 : s.d1.pure = (wrN p.d1.pure (pgV A) 4).flush) {k : Nat} (hk : k < 4) : s.d1.pure.slot k = s.d0.pure.slot k := by
  obtain ⟨w1, w2, w3, w4⟩ := wrN_same p.d1.pure (pgV A) 4
  have hf := wrN_fine f1 o1 hc A 4 (Nat.le_refl _)
  rw [e0, e1, slot_flush f0 b0 hk, slot_flush hf (w2.trans b1) hk]
  refine slot_pgOf f0 o0 (w1.trans o1) (by rw [w3]; exact hl) hk (a := atA A false k) (at_get hA false hk) ?_
  rw [wrN_read _ _ 4 k hk]
  unfold pgV
  rw [if_neg (by rw [hv k hk]; decide)]
end Go.Proofs.YtjahiohlekdhoaaDoor
