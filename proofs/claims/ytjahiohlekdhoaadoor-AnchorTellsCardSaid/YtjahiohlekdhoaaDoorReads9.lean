/-
  What an argument that was read looks like: bytes, pointers, marks, anchors, pages.
-/
import Derived.Test.YtjahiohlekdhoaaDoorRow
import Derived.Test.YtjahiohlekdhoaaDoorLaw9
namespace Go.Proofs.YtjahiohlekdhoaaDoor
open Go

theorem kU {t : TypeId} {d : TypeDesc} (h : Tryd.prog.underlying t = some d) : Tryd.prog.underlying t = some d := h
theorem rd8 : Rd Tryd.prog 5 (fun b : UInt8 => [v8 b]) fun _ _ => True := rd_u8 (by kernel_rfl)
theorem rd16 : Rd Tryd.prog 23 (fun b : UInt16 => [v16 b]) fun _ _ => True := rd_u16 (by kernel_rfl)
theorem rd32 : Rd Tryd.prog 22 (fun b : UInt32 => [v32 b]) fun _ _ => True := rd_u32 (by kernel_rfl)
theorem rd64 : Rd Tryd.prog 25 (fun b : UInt64 => [v64 b]) fun _ _ => True := rd_u64 (by kernel_rfl)
theorem rdi : Rd Tryd.prog 3 (fun n : Int => [vi n]) fun n _ => i64ok n := rd_int (by kernel_rfl)

def BSR (s : BS) (w : World) : Prop := s.ok ∧ s.res.p V0 w
theorem flat_v8 (l : List UInt8) : (l.flatMap fun b => [v8 b]) = bv l := by
  induction l with
  | nil => rfl
  | cons x l ih => rw [List.flatMap_cons, ih]; rfl
theorem rdB : Rd Tryd.prog 28 (fun s : BS => [s.v]) BSR := by
  intro H enc w base spare held fuel cells x h
  obtain ⟨s, rfl, hok, hm, _⟩ := rd_slice (t := 28) (e := 5) (n := 1) (by kernel_rfl) rd8 (fun _ => rfl) (by kernel_rfl) rfl h
  exact ⟨⟨s.ba, s.cap, s.xs⟩, rfl, hok, by rw [flat_v8] at hm; exact hm⟩

theorem two_of {l : List Value} (h : l.length = 2) : ∃ a b, l = [a, b] := by
  match l, h with
  | [a, b], _ => exact ⟨a, b, rfl⟩
theorem four_of {l : List Value} (h : l.length = 4) : ∃ a b c d, l = [a, b, c, d] := by
  match l, h with
  | [a, b, c, d], _ => exact ⟨a, b, c, d, rfl⟩
theorem five_of {l : List Value} (h : l.length = 5) : ∃ a b c d e, l = [a, b, c, d, e] := by
  match l, h with
  | [a, b, c, d, e], _ => exact ⟨a, b, c, d, e, rfl⟩
theorem fourteen_of {l : List Value} (h : l.length = 14) : ∃ a b c d e f g i j k m n o p, l = [a, b, c, d, e, f, g, i, j, k, m, n, o, p] := by
  match l, h with
  | [a, b, c, d, e, f, g, i, j, k, m, n, o, p], _ => exact ⟨a, b, c, d, e, f, g, i, j, k, m, n, o, p, rfl⟩

theorem rdAddr : Rd Tryd.prog 24 (fun l : { l : List UInt16 // l.length = 2 } => l.1.map v16) fun _ _ => True := by
  intro H enc w base spare held fuel cells x h
  obtain ⟨a, ha, _⟩ := rd_array1 (t := 24) (e := 23) (c := v16) (by kernel_rfl) rd16 (by kernel_rfl) (by kernel_rfl) h
  exact ⟨a, ha, trivial⟩
theorem rdPtr : Rd Tryd.prog 27 PtrV.cs fun _ _ => True := by
  intro H enc w base spare held fuel cells x h
  obtain ⟨hl, hf⟩ := rd_field (fs := [(5, 0), (24, 1), (22, 3), (25, 4)]) (by kernel_rfl) h
  rw [show Tryd.prog.cellsOf 27 = 5 by kernel_rfl] at hl
  obtain ⟨c0, c1, c2, c3, c4, rfl⟩ := five_of hl
  obtain ⟨k, hk, _⟩ := hf (n := 1) (.head _) (by kernel_rfl) rd8
  obtain ⟨⟨l, hl2⟩, ha, _⟩ := hf (n := 2) (.tail _ (.head _)) (by kernel_rfl) rdAddr
  obtain ⟨bi, hb, _⟩ := hf (n := 1) (.tail _ (.tail _ (.head _))) (by kernel_rfl) rd32
  obtain ⟨su, hs, _⟩ := hf (n := 1) (.tail _ (.tail _ (.tail _ (.head _)))) (by kernel_rfl) rd64
  match l, hl2 with
  | [a0, a1], _ =>
    refine ⟨⟨k, a0, a1, bi, su⟩, ?_, trivial⟩
    simp at hk ha hb hs
    simp [PtrV.cs, hk, ha, hb, hs]
theorem rdMk : Rd Tryd.prog 30 MkV.cs fun m w => BSR m.key w := by
  intro H enc w base spare held fuel cells x h
  obtain ⟨hl, hf⟩ := rd_field (fs := [(5, 0), (5, 1), (22, 2), (28, 3)]) (by kernel_rfl) h
  rw [show Tryd.prog.cellsOf 30 = 4 by kernel_rfl] at hl
  obtain ⟨c0, c1, c2, c3, rfl⟩ := four_of hl
  obtain ⟨o, ho, _⟩ := hf (n := 1) (.head _) (by kernel_rfl) rd8
  obtain ⟨d, hd, _⟩ := hf (n := 1) (.tail _ (.head _)) (by kernel_rfl) rd8
  obtain ⟨si, hs, _⟩ := hf (n := 1) (.tail _ (.tail _ (.head _))) (by kernel_rfl) rd32
  obtain ⟨k, hk, hkr⟩ := hf (n := 1) (.tail _ (.tail _ (.tail _ (.head _)))) (by kernel_rfl) rdB
  refine ⟨⟨o, d, si, k⟩, ?_, hkr⟩
  simp at ho hd hs hk
  simp [MkV.cs, ho, hd, hs, hk]
theorem rdAnc : Rd Tryd.prog 32 AncV.cs fun a w => BSR a.mark.key w := by
  intro H enc w base spare held fuel cells x h
  obtain ⟨hl, hf⟩ := rd_field (fs := [(22, 0), (23, 1), (27, 2), (22, 7), (5, 8), (22, 9), (30, 10)]) (by kernel_rfl) h
  rw [show Tryd.prog.cellsOf 32 = 14 by kernel_rfl] at hl
  obtain ⟨c0, c1, c2, c3, c4, c5, c6, c7, c8, c9, c10, c11, c12, c13, rfl⟩ := fourteen_of hl
  obtain ⟨f0, h0, _⟩ := hf (n := 1) (.head _) (by kernel_rfl) rd32
  obtain ⟨f1, h1, _⟩ := hf (n := 1) (.tail _ (.head _)) (by kernel_rfl) rd16
  obtain ⟨f2, h2, _⟩ := hf (n := 5) (.tail _ (.tail _ (.head _))) (by kernel_rfl) rdPtr
  obtain ⟨f3, h3, _⟩ := hf (n := 1) (.tail _ (.tail _ (.tail _ (.head _)))) (by kernel_rfl) rd32
  obtain ⟨f4, h4, _⟩ := hf (n := 1) (.tail _ (.tail _ (.tail _ (.tail _ (.head _))))) (by kernel_rfl) rd8
  obtain ⟨f5, h5, _⟩ := hf (n := 1) (.tail _ (.tail _ (.tail _ (.tail _ (.tail _ (.head _)))))) (by kernel_rfl) rd32
  obtain ⟨f6, h6, hr⟩ := hf (n := 4) (.tail _ (.tail _ (.tail _ (.tail _ (.tail _ (.tail _ (.head _))))))) (by kernel_rfl) rdMk
  refine ⟨⟨f0, f1, f2, f3, f4, f5, f6⟩, ?_, hr⟩
  simp [PtrV.cs, MkV.cs] at h0 h1 h2 h3 h4 h5 h6
  simp [AncV.cs, h0, h1, h2, h3, h4, h5, h6]
theorem rdAncs : Rd Tryd.prog 47 (fun s : Sl AncV => [s.v]) fun s w => s.ok ∧ (Res.mem s.ba (ancsV s.xs)).p V0 w ∧ ∀ a ∈ s.xs, BSR a.mark.key w :=
  rd_slice (t := 47) (e := 32) (n := 14) (by kernel_rfl) rdAnc (fun _ => rfl) (by kernel_rfl) rfl
theorem rdPage : Rd Tryd.prog 37 (fun l : { l : List UInt8 // l.length = 256 } => bv l.1) fun _ _ => True := by
  intro H enc w base spare held fuel cells x h
  obtain ⟨a, ha, _⟩ := rd_array1 (t := 37) (e := 5) (c := v8) (by kernel_rfl) rd8 (by kernel_rfl) (by kernel_rfl) h
  exact ⟨a, ha, trivial⟩
theorem rdEight : Rd Tryd.prog 33 (fun l : { l : List UInt8 // l.length = 8 } => bv l.1) fun _ _ => True := by
  intro H enc w base spare held fuel cells x h
  obtain ⟨a, ha, _⟩ := rd_array1 (t := 33) (e := 5) (c := v8) (by kernel_rfl) rd8 (by kernel_rfl) (by kernel_rfl) h
  exact ⟨a, ha, trivial⟩
end Go.Proofs.YtjahiohlekdhoaaDoor
