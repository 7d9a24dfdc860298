/-
  What the engine asks of this seat's types: tables, each held against the program by the kernel.
-/
import Derived.Test.YtjahiohlekdhoaaDoorE3
import Derived.Test.YtjahiohlekdhoaaDoorProg
namespace Go.Proofs.YtjahiohlekdhoaaDoor
open Go

def lkT {α : Type} : List (Nat × α) → Nat → Option α
  | [], _ => none
  | (k, v) :: r, t => bif Nat.beq k t then some v else lkT r t

theorem lkT_mem {α : Type} {l : List (Nat × α)} {t : Nat} {x : α} (h : lkT l t = some x) : (t, x) ∈ l := by
  induction l with
  | nil => cases h
  | cons p r ih =>
    obtain ⟨k, v⟩ := p
    unfold lkT at h
    cases hb : Nat.beq k t with
    | true => rw [hb] at h; cases h; rw [Nat.eq_of_beq_eq_true hb]; exact .head _
    | false => rw [hb] at h; exact .tail _ (ih h)

theorem tabAll {α : Type} [DecidableEq α] {l : List (Nat × α)} {f : Nat → Option α} (h : (l.all fun p => decide (f p.1 = some p.2)) = true) {t : Nat} {x : α} (hx : lkT l t = some x) : f t = some x :=
  of_decide_eq_true (List.all_eq_true.1 h _ (lkT_mem hx))

def aSz : List (Nat × (Bool × Nat)) := [(1, (false, 1)), (2, (false, 1)), (3, (false, 1)), (4, (false, 1)), (5, (false, 1)), (9, (false, 1)), (12, (false, 1)), (13, (true, 2)), (21, (false, 1)), (22, (false, 1)), (23, (false, 1)), (24, (true, 2)), (25, (false, 1)), (26, (true, 5)), (27, (true, 5)), (28, (false, 1)), (29, (true, 4)), (30, (true, 4)), (31, (true, 14)), (32, (true, 14)), (33, (true, 8)), (34, (false, 1)), (35, (false, 1)), (36, (true, 256)), (37, (true, 256)), (38, (false, 1)), (40, (false, 1)), (41, (false, 1)), (43, (false, 1)), (44, (false, 1)), (45, (false, 1)), (46, (false, 1)), (47, (false, 1)), (48, (false, 1)), (49, (true, 4)), (50, (false, 1)), (51, (false, 1)), (52, (false, 1)), (53, (false, 1)), (54, (false, 1)), (55, (false, 1)), (56, (false, 1)), (57, (false, 1)), (58, (false, 1)), (59, (true, 4)), (60, (true, 4)), (61, (true, 8)), (62, (true, 10)), (63, (true, 10)), (64, (false, 1)), (66, (false, 1)), (67, (false, 1)), (68, (false, 1)), (70, (false, 1)), (71, (false, 1)), (72, (true, 56)), (73, (true, 112)), (74, (false, 1)), (75, (false, 1)), (77, (false, 1)), (78, (true, 4)), (79, (false, 1)), (80, (false, 1)), (81, (false, 1)), (82, (false, 1)), (83, (false, 1)), (84, (false, 1)), (85, (false, 1)), (86, (false, 1)), (87, (false, 1)), (88, (false, 1)), (89, (false, 1)), (90, (false, 1)), (91, (false, 1)), (92, (false, 1)), (94, (false, 1)), (95, (true, 9)), (97, (false, 1)), (99, (false, 1)), (100, (false, 1)), (101, (false, 1)), (102, (false, 1)), (104, (false, 1)), (105, (false, 1)), (106, (false, 1)), (107, (true, 28)), (108, (false, 1)), (109, (false, 1)), (110, (false, 1)), (111, (true, 2)), (112, (true, 2)), (113, (false, 1)), (114, (false, 1)), (115, (false, 1)), (116, (false, 1)), (117, (false, 1)), (118, (false, 1)), (119, (true, 9)), (120, (false, 1)), (121, (true, 5)), (122, (true, 5)), (123, (false, 1)), (124, (false, 1)), (125, (false, 1)), (126, (false, 1)), (127, (false, 1)), (128, (false, 1)), (129, (false, 1)), (130, (false, 1)), (131, (false, 1)), (132, (false, 1)), (133, (false, 1)), (134, (false, 1)), (135, (false, 1)), (136, (false, 1)), (137, (false, 1)), (138, (false, 1)), (139, (false, 1)), (140, (false, 1)), (141, (false, 1)), (142, (false, 1)), (143, (false, 1)), (144, (false, 1)), (145, (false, 1)), (146, (true, 257)), (147, (true, 257)), (148, (false, 1)), (149, (false, 1)), (150, (false, 1)), (151, (false, 1)), (152, (false, 1)), (153, (false, 1)), (154, (false, 1)), (155, (false, 1)), (156, (false, 1)), (157, (false, 1)), (158, (false, 1)), (160, (false, 1)), (161, (false, 1)), (162, (false, 1)), (163, (false, 1)), (164, (false, 1)), (165, (false, 1)), (166, (false, 1)), (167, (false, 1)), (168, (false, 1)), (169, (false, 1)), (170, (false, 1)), (171, (false, 1)), (172, (false, 1)), (173, (false, 1)), (174, (false, 1)), (175, (false, 1)), (181, (false, 1)), (185, (false, 1))]
def aSl : List (Nat × (Nat × Nat × Nat)) := [(28, (5, 1, 1)), (47, (32, 14, 80)), (56, (37, 256, 256)), (57, (147, 257, 264)), (58, (3, 1, 8)), (129, (28, 1, 24))]
def aAr : List (Nat × (Nat × Nat × Nat)) := [(24, (2, 23, 1)), (33, (8, 5, 1)), (36, (256, 5, 1)), (37, (256, 5, 1)), (49, (4, 4, 1)), (61, (2, 60, 4)), (72, (4, 32, 14)), (73, (2, 72, 56)), (78, (4, 22, 1)), (95, (9, 25, 1)), (107, (2, 32, 14)), (119, (9, 3, 1)), (121, (5, 25, 1)), (122, (5, 3, 1))]
def aFd : List (Nat × (Nat × Bool × Nat)) := [(832, (0, false, 1)), (833, (1, false, 1)), (1664, (0, false, 1)), (1665, (1, true, 2)), (1666, (3, false, 1)), (1667, (4, false, 1)), (1728, (0, false, 1)), (1729, (1, true, 2)), (1730, (3, false, 1)), (1731, (4, false, 1)), (1856, (0, false, 1)), (1857, (1, false, 1)), (1858, (2, false, 1)), (1859, (3, false, 1)), (1920, (0, false, 1)), (1921, (1, false, 1)), (1922, (2, false, 1)), (1923, (3, false, 1)), (1984, (0, false, 1)), (1985, (1, false, 1)), (1986, (2, true, 5)), (1987, (7, false, 1)), (1988, (8, false, 1)), (1989, (9, false, 1)), (1990, (10, true, 4)), (2048, (0, false, 1)), (2049, (1, false, 1)), (2050, (2, true, 5)), (2051, (7, false, 1)), (2052, (8, false, 1)), (2053, (9, false, 1)), (2054, (10, true, 4)), (3776, (0, false, 1)), (3777, (1, false, 1)), (3778, (2, false, 1)), (3779, (3, false, 1)), (3840, (0, false, 1)), (3841, (1, false, 1)), (3842, (2, false, 1)), (3843, (3, false, 1)), (3968, (0, true, 8)), (3969, (8, false, 1)), (3970, (9, false, 1)), (4032, (0, true, 8)), (4033, (8, false, 1)), (4034, (9, false, 1)), (7104, (0, false, 1)), (7105, (1, false, 1)), (7168, (0, false, 1)), (7169, (1, false, 1)), (9344, (0, false, 1)), (9345, (1, true, 256)), (9408, (0, false, 1)), (9409, (1, true, 256))]
def aIt : List (Nat × IntKind) := [(2, IntKind.i64), (3, IntKind.i64), (5, IntKind.u8), (12, IntKind.u64), (21, IntKind.i32), (22, IntKind.u32), (23, IntKind.u16), (25, IntKind.u64), (38, IntKind.i64), (139, IntKind.u64)]

theorem aSz_ok : (aSz.all fun p => decide (tSz Tryd.prog p.1 = some p.2)) = true := by kernel_rfl
theorem aSl_ok : (aSl.all fun p => decide (tSl Tryd.prog p.1 = some p.2)) = true := by kernel_rfl
theorem aAr_ok : (aAr.all fun p => decide (tAr Tryd.prog p.1 = some p.2)) = true := by kernel_rfl
theorem aFd_ok : (aFd.all fun p => decide (tFd Tryd.prog (p.1 / 64) (p.1 % 64) = some p.2)) = true := by kernel_rfl
theorem aIt_ok : (aIt.all fun p => decide (tInt Tryd.prog p.1 = some p.2)) = true := by kernel_rfl
theorem tz {t : Nat} {x : Bool × Nat} (h : lkT aSz t = some x) : tSz Tryd.prog t = some x := tabAll (f := tSz Tryd.prog) aSz_ok h
theorem tl {t : Nat} {x : Nat × Nat × Nat} (h : lkT aSl t = some x) : tSl Tryd.prog t = some x := tabAll (f := tSl Tryd.prog) aSl_ok h
theorem ta {t : Nat} {x : Nat × Nat × Nat} (h : lkT aAr t = some x) : tAr Tryd.prog t = some x := tabAll (f := tAr Tryd.prog) aAr_ok h
theorem tf {t i : Nat} {x : Nat × Bool × Nat} (hi : Nat.blt i 64 = true) (h : lkT aFd (t * 64 + i) = some x) : tFd Tryd.prog t i = some x := by
  have hi' : i < 64 := by simpa [Nat.blt_eq] using hi
  have := tabAll (f := fun k => tFd Tryd.prog (k / 64) (k % 64)) aFd_ok h
  have this' : tFd Tryd.prog ((t * 64 + i) / 64) ((t * 64 + i) % 64) = some x := this
  rw [show (t * 64 + i) / 64 = t from by omega, show (t * 64 + i) % 64 = i from by omega] at this'
  exact this'
theorem ti {t : Nat} {x : IntKind} (h : lkT aIt t = some x) : tInt Tryd.prog t = some x := tabAll (f := tInt Tryd.prog) aIt_ok h
theorem tb4 : Tryd.prog.underlying 4 = some .bool := by kernel_rfl
def aZ : Nat → Option Value
  | 1 => some (.nilFunc)
  | 2 => some (.int .i64 0)
  | 3 => some (.int .i64 0)
  | 4 => some (.bool false)
  | 5 => some (.int .u8 0)
  | 9 => some (.string ⟨#[]⟩)
  | 12 => some (.int .u64 0)
  | 13 => some (.agg #[.string ⟨#[]⟩, .int .u64 0])
  | 21 => some (.int .i32 0)
  | 22 => some (.int .u32 0)
  | 23 => some (.int .u16 0)
  | 24 => some (.agg #[.int .u16 0, .int .u16 0])
  | 25 => some (.int .u64 0)
  | 26 => some (.agg #[.int .u8 0, .int .u16 0, .int .u16 0, .int .u32 0, .int .u64 0])
  | 27 => some (.agg #[.int .u8 0, .int .u16 0, .int .u16 0, .int .u32 0, .int .u64 0])
  | 28 => some (.slice none 0 0)
  | 29 => some (.agg #[.int .u8 0, .int .u8 0, .int .u32 0, .slice none 0 0])
  | 30 => some (.agg #[.int .u8 0, .int .u8 0, .int .u32 0, .slice none 0 0])
  | 31 => some (.agg #[.int .u32 0, .int .u16 0, .int .u8 0, .int .u16 0, .int .u16 0, .int .u32 0, .int .u64 0, .int .u32 0, .int .u8 0, .int .u32 0, .int .u8 0, .int .u8 0, .int .u32 0, .slice none 0 0])
  | 32 => some (.agg #[.int .u32 0, .int .u16 0, .int .u8 0, .int .u16 0, .int .u16 0, .int .u32 0, .int .u64 0, .int .u32 0, .int .u8 0, .int .u32 0, .int .u8 0, .int .u8 0, .int .u32 0, .slice none 0 0])
  | 33 => some (.agg #[.int .u8 0, .int .u8 0, .int .u8 0, .int .u8 0, .int .u8 0, .int .u8 0, .int .u8 0, .int .u8 0])
  | 34 => some (.nilFunc)
  | 35 => some (.nilFunc)
  | 36 => some (.agg (List.replicate 256 (.int .u8 0)).toArray)
  | 37 => some (.agg (List.replicate 256 (.int .u8 0)).toArray)
  | 38 => some (.int .i64 0)
  | 40 => some (.nilFunc)
  | 41 => some (.nilFunc)
  | 43 => some (.nilFunc)
  | 44 => some (.nilFunc)
  | 45 => some (.nilFunc)
  | 46 => some (.nilFunc)
  | 47 => some (.slice none 0 0)
  | 48 => some (.nilFunc)
  | 49 => some (.agg #[.bool false, .bool false, .bool false, .bool false])
  | 50 => some (.nilFunc)
  | 51 => some (.nilFunc)
  | 52 => some (.nilFunc)
  | 53 => some (.nilFunc)
  | 54 => some (.nilFunc)
  | 55 => some (.nilFunc)
  | 56 => some (.slice none 0 0)
  | 57 => some (.slice none 0 0)
  | 58 => some (.slice none 0 0)
  | 59 => some (.agg #[.slice none 0 0, .slice none 0 0, .slice none 0 0, .bool false])
  | 60 => some (.agg #[.slice none 0 0, .slice none 0 0, .slice none 0 0, .bool false])
  | 61 => some (.agg #[.slice none 0 0, .slice none 0 0, .slice none 0 0, .bool false, .slice none 0 0, .slice none 0 0, .slice none 0 0, .bool false])
  | 62 => some (.agg #[.slice none 0 0, .slice none 0 0, .slice none 0 0, .bool false, .slice none 0 0, .slice none 0 0, .slice none 0 0, .bool false, .int .i64 0, .bool false])
  | 63 => some (.agg #[.slice none 0 0, .slice none 0 0, .slice none 0 0, .bool false, .slice none 0 0, .slice none 0 0, .slice none 0 0, .bool false, .int .i64 0, .bool false])
  | 64 => some (.nilFunc)
  | 66 => some (.nilFunc)
  | 67 => some (.nilFunc)
  | 68 => some (.nilFunc)
  | 70 => some (.nilFunc)
  | 71 => some (.nilFunc)
  | 72 => some (.agg #[.int .u32 0, .int .u16 0, .int .u8 0, .int .u16 0, .int .u16 0, .int .u32 0, .int .u64 0, .int .u32 0, .int .u8 0, .int .u32 0, .int .u8 0, .int .u8 0, .int .u32 0, .slice none 0 0, .int .u32 0, .int .u16 0, .int .u8 0, .int .u16 0, .int .u16 0, .int .u32 0, .int .u64 0, .int .u32 0, .int .u8 0, .int .u32 0, .int .u8 0, .int .u8 0, .int .u32 0, .slice none 0 0, .int .u32 0, .int .u16 0, .int .u8 0, .int .u16 0, .int .u16 0, .int .u32 0, .int .u64 0, .int .u32 0, .int .u8 0, .int .u32 0, .int .u8 0, .int .u8 0, .int .u32 0, .slice none 0 0, .int .u32 0, .int .u16 0, .int .u8 0, .int .u16 0, .int .u16 0, .int .u32 0, .int .u64 0, .int .u32 0, .int .u8 0, .int .u32 0, .int .u8 0, .int .u8 0, .int .u32 0, .slice none 0 0])
  | 74 => some (.nilFunc)
  | 75 => some (.nilFunc)
  | 77 => some (.nilFunc)
  | 78 => some (.agg #[.int .u32 0, .int .u32 0, .int .u32 0, .int .u32 0])
  | 79 => some (.nilFunc)
  | 80 => some (.nilFunc)
  | 81 => some (.nilFunc)
  | 82 => some (.nilFunc)
  | 83 => some (.nilFunc)
  | 84 => some (.nilFunc)
  | 85 => some (.nilFunc)
  | 86 => some (.nilFunc)
  | 87 => some (.nilFunc)
  | 88 => some (.nilFunc)
  | 89 => some (.nilFunc)
  | 90 => some (.nilFunc)
  | 91 => some (.nilFunc)
  | 92 => some (.nilFunc)
  | 94 => some (.nilFunc)
  | 95 => some (.agg #[.int .u64 0, .int .u64 0, .int .u64 0, .int .u64 0, .int .u64 0, .int .u64 0, .int .u64 0, .int .u64 0, .int .u64 0])
  | 97 => some (.nilFunc)
  | 99 => some (.nilFunc)
  | 100 => some (.nilFunc)
  | 101 => some (.nilFunc)
  | 102 => some (.nilFunc)
  | 104 => some (.nilFunc)
  | 105 => some (.nilFunc)
  | 106 => some (.nilFunc)
  | 107 => some (.agg #[.int .u32 0, .int .u16 0, .int .u8 0, .int .u16 0, .int .u16 0, .int .u32 0, .int .u64 0, .int .u32 0, .int .u8 0, .int .u32 0, .int .u8 0, .int .u8 0, .int .u32 0, .slice none 0 0, .int .u32 0, .int .u16 0, .int .u8 0, .int .u16 0, .int .u16 0, .int .u32 0, .int .u64 0, .int .u32 0, .int .u8 0, .int .u32 0, .int .u8 0, .int .u8 0, .int .u32 0, .slice none 0 0])
  | 108 => some (.nilFunc)
  | 109 => some (.nilFunc)
  | 110 => some (.nilFunc)
  | 111 => some (.agg #[.int .i64 0, .int .i64 0])
  | 112 => some (.agg #[.int .i64 0, .int .i64 0])
  | 113 => some (.nilFunc)
  | 114 => some (.nilFunc)
  | 115 => some (.nilFunc)
  | 116 => some (.nilFunc)
  | 117 => some (.nilFunc)
  | 118 => some (.nilFunc)
  | 119 => some (.agg #[.int .i64 0, .int .i64 0, .int .i64 0, .int .i64 0, .int .i64 0, .int .i64 0, .int .i64 0, .int .i64 0, .int .i64 0])
  | 120 => some (.nilFunc)
  | 121 => some (.agg #[.int .u64 0, .int .u64 0, .int .u64 0, .int .u64 0, .int .u64 0])
  | 122 => some (.agg #[.int .i64 0, .int .i64 0, .int .i64 0, .int .i64 0, .int .i64 0])
  | 123 => some (.nilFunc)
  | 124 => some (.nilFunc)
  | 125 => some (.nilFunc)
  | 126 => some (.nilFunc)
  | 127 => some (.nilFunc)
  | 128 => some (.nilFunc)
  | 129 => some (.slice none 0 0)
  | 130 => some (.nilFunc)
  | 131 => some (.nilFunc)
  | 132 => some (.nilFunc)
  | 133 => some (.nilFunc)
  | 134 => some (.nilFunc)
  | 135 => some (.nilFunc)
  | 136 => some (.nilFunc)
  | 137 => some (.nilFunc)
  | 138 => some (.nilFunc)
  | 139 => some (.int .u64 0)
  | 140 => some (.nilFunc)
  | 141 => some (.nilFunc)
  | 142 => some (.nilFunc)
  | 143 => some (.nilFunc)
  | 144 => some (.nilFunc)
  | 145 => some (.nilFunc)
  | 148 => some (.nilFunc)
  | 149 => some (.nilFunc)
  | 150 => some (.nilFunc)
  | 151 => some (.nilFunc)
  | 152 => some (.nilFunc)
  | 153 => some (.nilFunc)
  | 154 => some (.nilFunc)
  | 155 => some (.nilFunc)
  | 156 => some (.nilFunc)
  | 157 => some (.nilFunc)
  | 158 => some (.nilFunc)
  | 160 => some (.nilFunc)
  | 161 => some (.nilFunc)
  | 162 => some (.nilFunc)
  | 163 => some (.nilFunc)
  | 164 => some (.nilFunc)
  | 165 => some (.nilFunc)
  | 166 => some (.nilFunc)
  | 167 => some (.nilFunc)
  | 168 => some (.nilFunc)
  | 169 => some (.nilFunc)
  | 170 => some (.nilFunc)
  | 171 => some (.nilFunc)
  | 172 => some (.nilFunc)
  | 173 => some (.nilFunc)
  | 174 => some (.nilFunc)
  | 175 => some (.nilFunc)
  | 181 => some (.nilFunc)
  | 185 => some (.pointer none)
  | _ => none
theorem z1 : tZ Tryd.prog 1 = some (.nilFunc) := by kernel_rfl
theorem z2 : tZ Tryd.prog 2 = some (.int .i64 0) := by kernel_rfl
theorem z3 : tZ Tryd.prog 3 = some (.int .i64 0) := by kernel_rfl
theorem z4 : tZ Tryd.prog 4 = some (.bool false) := by kernel_rfl
theorem z5 : tZ Tryd.prog 5 = some (.int .u8 0) := by kernel_rfl
theorem z9 : tZ Tryd.prog 9 = some (.string ⟨#[]⟩) := by kernel_rfl
theorem z12 : tZ Tryd.prog 12 = some (.int .u64 0) := by kernel_rfl
theorem z13 : tZ Tryd.prog 13 = some (.agg #[.string ⟨#[]⟩, .int .u64 0]) := by kernel_rfl
theorem z21 : tZ Tryd.prog 21 = some (.int .i32 0) := by kernel_rfl
theorem z22 : tZ Tryd.prog 22 = some (.int .u32 0) := by kernel_rfl
theorem z23 : tZ Tryd.prog 23 = some (.int .u16 0) := by kernel_rfl
theorem z24 : tZ Tryd.prog 24 = some (.agg #[.int .u16 0, .int .u16 0]) := by kernel_rfl
theorem z25 : tZ Tryd.prog 25 = some (.int .u64 0) := by kernel_rfl
theorem z26 : tZ Tryd.prog 26 = some (.agg #[.int .u8 0, .int .u16 0, .int .u16 0, .int .u32 0, .int .u64 0]) := by kernel_rfl
theorem z27 : tZ Tryd.prog 27 = some (.agg #[.int .u8 0, .int .u16 0, .int .u16 0, .int .u32 0, .int .u64 0]) := by kernel_rfl
theorem z28 : tZ Tryd.prog 28 = some (.slice none 0 0) := by kernel_rfl
theorem z29 : tZ Tryd.prog 29 = some (.agg #[.int .u8 0, .int .u8 0, .int .u32 0, .slice none 0 0]) := by kernel_rfl
theorem z30 : tZ Tryd.prog 30 = some (.agg #[.int .u8 0, .int .u8 0, .int .u32 0, .slice none 0 0]) := by kernel_rfl
theorem z31 : tZ Tryd.prog 31 = some (.agg #[.int .u32 0, .int .u16 0, .int .u8 0, .int .u16 0, .int .u16 0, .int .u32 0, .int .u64 0, .int .u32 0, .int .u8 0, .int .u32 0, .int .u8 0, .int .u8 0, .int .u32 0, .slice none 0 0]) := by kernel_rfl
theorem z32 : tZ Tryd.prog 32 = some (.agg #[.int .u32 0, .int .u16 0, .int .u8 0, .int .u16 0, .int .u16 0, .int .u32 0, .int .u64 0, .int .u32 0, .int .u8 0, .int .u32 0, .int .u8 0, .int .u8 0, .int .u32 0, .slice none 0 0]) := by kernel_rfl
theorem z33 : tZ Tryd.prog 33 = some (.agg #[.int .u8 0, .int .u8 0, .int .u8 0, .int .u8 0, .int .u8 0, .int .u8 0, .int .u8 0, .int .u8 0]) := by kernel_rfl
theorem z34 : tZ Tryd.prog 34 = some (.nilFunc) := by kernel_rfl
theorem z35 : tZ Tryd.prog 35 = some (.nilFunc) := by kernel_rfl
theorem z36 : tZ Tryd.prog 36 = some (.agg (List.replicate 256 (.int .u8 0)).toArray) := by kernel_rfl
theorem z37 : tZ Tryd.prog 37 = some (.agg (List.replicate 256 (.int .u8 0)).toArray) := by kernel_rfl
theorem z38 : tZ Tryd.prog 38 = some (.int .i64 0) := by kernel_rfl
theorem z40 : tZ Tryd.prog 40 = some (.nilFunc) := by kernel_rfl
theorem z41 : tZ Tryd.prog 41 = some (.nilFunc) := by kernel_rfl
theorem z43 : tZ Tryd.prog 43 = some (.nilFunc) := by kernel_rfl
theorem z44 : tZ Tryd.prog 44 = some (.nilFunc) := by kernel_rfl
theorem z45 : tZ Tryd.prog 45 = some (.nilFunc) := by kernel_rfl
theorem z46 : tZ Tryd.prog 46 = some (.nilFunc) := by kernel_rfl
theorem z47 : tZ Tryd.prog 47 = some (.slice none 0 0) := by kernel_rfl
theorem z48 : tZ Tryd.prog 48 = some (.nilFunc) := by kernel_rfl
theorem z49 : tZ Tryd.prog 49 = some (.agg #[.bool false, .bool false, .bool false, .bool false]) := by kernel_rfl
theorem z50 : tZ Tryd.prog 50 = some (.nilFunc) := by kernel_rfl
theorem z51 : tZ Tryd.prog 51 = some (.nilFunc) := by kernel_rfl
theorem z52 : tZ Tryd.prog 52 = some (.nilFunc) := by kernel_rfl
theorem z53 : tZ Tryd.prog 53 = some (.nilFunc) := by kernel_rfl
theorem z54 : tZ Tryd.prog 54 = some (.nilFunc) := by kernel_rfl
theorem z55 : tZ Tryd.prog 55 = some (.nilFunc) := by kernel_rfl
theorem z56 : tZ Tryd.prog 56 = some (.slice none 0 0) := by kernel_rfl
theorem z57 : tZ Tryd.prog 57 = some (.slice none 0 0) := by kernel_rfl
theorem z58 : tZ Tryd.prog 58 = some (.slice none 0 0) := by kernel_rfl
theorem z59 : tZ Tryd.prog 59 = some (.agg #[.slice none 0 0, .slice none 0 0, .slice none 0 0, .bool false]) := by kernel_rfl
theorem z60 : tZ Tryd.prog 60 = some (.agg #[.slice none 0 0, .slice none 0 0, .slice none 0 0, .bool false]) := by kernel_rfl
theorem z61 : tZ Tryd.prog 61 = some (.agg #[.slice none 0 0, .slice none 0 0, .slice none 0 0, .bool false, .slice none 0 0, .slice none 0 0, .slice none 0 0, .bool false]) := by kernel_rfl
theorem z62 : tZ Tryd.prog 62 = some (.agg #[.slice none 0 0, .slice none 0 0, .slice none 0 0, .bool false, .slice none 0 0, .slice none 0 0, .slice none 0 0, .bool false, .int .i64 0, .bool false]) := by kernel_rfl
theorem z63 : tZ Tryd.prog 63 = some (.agg #[.slice none 0 0, .slice none 0 0, .slice none 0 0, .bool false, .slice none 0 0, .slice none 0 0, .slice none 0 0, .bool false, .int .i64 0, .bool false]) := by kernel_rfl
theorem z64 : tZ Tryd.prog 64 = some (.nilFunc) := by kernel_rfl
theorem z66 : tZ Tryd.prog 66 = some (.nilFunc) := by kernel_rfl
theorem z67 : tZ Tryd.prog 67 = some (.nilFunc) := by kernel_rfl
theorem z68 : tZ Tryd.prog 68 = some (.nilFunc) := by kernel_rfl
theorem z70 : tZ Tryd.prog 70 = some (.nilFunc) := by kernel_rfl
theorem z71 : tZ Tryd.prog 71 = some (.nilFunc) := by kernel_rfl
theorem z72 : tZ Tryd.prog 72 = some (.agg #[.int .u32 0, .int .u16 0, .int .u8 0, .int .u16 0, .int .u16 0, .int .u32 0, .int .u64 0, .int .u32 0, .int .u8 0, .int .u32 0, .int .u8 0, .int .u8 0, .int .u32 0, .slice none 0 0, .int .u32 0, .int .u16 0, .int .u8 0, .int .u16 0, .int .u16 0, .int .u32 0, .int .u64 0, .int .u32 0, .int .u8 0, .int .u32 0, .int .u8 0, .int .u8 0, .int .u32 0, .slice none 0 0, .int .u32 0, .int .u16 0, .int .u8 0, .int .u16 0, .int .u16 0, .int .u32 0, .int .u64 0, .int .u32 0, .int .u8 0, .int .u32 0, .int .u8 0, .int .u8 0, .int .u32 0, .slice none 0 0, .int .u32 0, .int .u16 0, .int .u8 0, .int .u16 0, .int .u16 0, .int .u32 0, .int .u64 0, .int .u32 0, .int .u8 0, .int .u32 0, .int .u8 0, .int .u8 0, .int .u32 0, .slice none 0 0]) := by kernel_rfl
theorem z74 : tZ Tryd.prog 74 = some (.nilFunc) := by kernel_rfl
theorem z75 : tZ Tryd.prog 75 = some (.nilFunc) := by kernel_rfl
theorem z77 : tZ Tryd.prog 77 = some (.nilFunc) := by kernel_rfl
theorem z78 : tZ Tryd.prog 78 = some (.agg #[.int .u32 0, .int .u32 0, .int .u32 0, .int .u32 0]) := by kernel_rfl
theorem z79 : tZ Tryd.prog 79 = some (.nilFunc) := by kernel_rfl
theorem z80 : tZ Tryd.prog 80 = some (.nilFunc) := by kernel_rfl
theorem z81 : tZ Tryd.prog 81 = some (.nilFunc) := by kernel_rfl
theorem z82 : tZ Tryd.prog 82 = some (.nilFunc) := by kernel_rfl
theorem z83 : tZ Tryd.prog 83 = some (.nilFunc) := by kernel_rfl
theorem z84 : tZ Tryd.prog 84 = some (.nilFunc) := by kernel_rfl
theorem z85 : tZ Tryd.prog 85 = some (.nilFunc) := by kernel_rfl
theorem z86 : tZ Tryd.prog 86 = some (.nilFunc) := by kernel_rfl
theorem z87 : tZ Tryd.prog 87 = some (.nilFunc) := by kernel_rfl
theorem z88 : tZ Tryd.prog 88 = some (.nilFunc) := by kernel_rfl
theorem z89 : tZ Tryd.prog 89 = some (.nilFunc) := by kernel_rfl
theorem z90 : tZ Tryd.prog 90 = some (.nilFunc) := by kernel_rfl
theorem z91 : tZ Tryd.prog 91 = some (.nilFunc) := by kernel_rfl
theorem z92 : tZ Tryd.prog 92 = some (.nilFunc) := by kernel_rfl
theorem z94 : tZ Tryd.prog 94 = some (.nilFunc) := by kernel_rfl
theorem z95 : tZ Tryd.prog 95 = some (.agg #[.int .u64 0, .int .u64 0, .int .u64 0, .int .u64 0, .int .u64 0, .int .u64 0, .int .u64 0, .int .u64 0, .int .u64 0]) := by kernel_rfl
theorem z97 : tZ Tryd.prog 97 = some (.nilFunc) := by kernel_rfl
theorem z99 : tZ Tryd.prog 99 = some (.nilFunc) := by kernel_rfl
theorem z100 : tZ Tryd.prog 100 = some (.nilFunc) := by kernel_rfl
theorem z101 : tZ Tryd.prog 101 = some (.nilFunc) := by kernel_rfl
theorem z102 : tZ Tryd.prog 102 = some (.nilFunc) := by kernel_rfl
theorem z104 : tZ Tryd.prog 104 = some (.nilFunc) := by kernel_rfl
theorem z105 : tZ Tryd.prog 105 = some (.nilFunc) := by kernel_rfl
theorem z106 : tZ Tryd.prog 106 = some (.nilFunc) := by kernel_rfl
theorem z107 : tZ Tryd.prog 107 = some (.agg #[.int .u32 0, .int .u16 0, .int .u8 0, .int .u16 0, .int .u16 0, .int .u32 0, .int .u64 0, .int .u32 0, .int .u8 0, .int .u32 0, .int .u8 0, .int .u8 0, .int .u32 0, .slice none 0 0, .int .u32 0, .int .u16 0, .int .u8 0, .int .u16 0, .int .u16 0, .int .u32 0, .int .u64 0, .int .u32 0, .int .u8 0, .int .u32 0, .int .u8 0, .int .u8 0, .int .u32 0, .slice none 0 0]) := by kernel_rfl
theorem z108 : tZ Tryd.prog 108 = some (.nilFunc) := by kernel_rfl
theorem z109 : tZ Tryd.prog 109 = some (.nilFunc) := by kernel_rfl
theorem z110 : tZ Tryd.prog 110 = some (.nilFunc) := by kernel_rfl
theorem z111 : tZ Tryd.prog 111 = some (.agg #[.int .i64 0, .int .i64 0]) := by kernel_rfl
theorem z112 : tZ Tryd.prog 112 = some (.agg #[.int .i64 0, .int .i64 0]) := by kernel_rfl
theorem z113 : tZ Tryd.prog 113 = some (.nilFunc) := by kernel_rfl
theorem z114 : tZ Tryd.prog 114 = some (.nilFunc) := by kernel_rfl
theorem z115 : tZ Tryd.prog 115 = some (.nilFunc) := by kernel_rfl
theorem z116 : tZ Tryd.prog 116 = some (.nilFunc) := by kernel_rfl
theorem z117 : tZ Tryd.prog 117 = some (.nilFunc) := by kernel_rfl
theorem z118 : tZ Tryd.prog 118 = some (.nilFunc) := by kernel_rfl
theorem z119 : tZ Tryd.prog 119 = some (.agg #[.int .i64 0, .int .i64 0, .int .i64 0, .int .i64 0, .int .i64 0, .int .i64 0, .int .i64 0, .int .i64 0, .int .i64 0]) := by kernel_rfl
theorem z120 : tZ Tryd.prog 120 = some (.nilFunc) := by kernel_rfl
theorem z121 : tZ Tryd.prog 121 = some (.agg #[.int .u64 0, .int .u64 0, .int .u64 0, .int .u64 0, .int .u64 0]) := by kernel_rfl
theorem z122 : tZ Tryd.prog 122 = some (.agg #[.int .i64 0, .int .i64 0, .int .i64 0, .int .i64 0, .int .i64 0]) := by kernel_rfl
theorem z123 : tZ Tryd.prog 123 = some (.nilFunc) := by kernel_rfl
theorem z124 : tZ Tryd.prog 124 = some (.nilFunc) := by kernel_rfl
theorem z125 : tZ Tryd.prog 125 = some (.nilFunc) := by kernel_rfl
theorem z126 : tZ Tryd.prog 126 = some (.nilFunc) := by kernel_rfl
theorem z127 : tZ Tryd.prog 127 = some (.nilFunc) := by kernel_rfl
theorem z128 : tZ Tryd.prog 128 = some (.nilFunc) := by kernel_rfl
theorem z129 : tZ Tryd.prog 129 = some (.slice none 0 0) := by kernel_rfl
theorem z130 : tZ Tryd.prog 130 = some (.nilFunc) := by kernel_rfl
theorem z131 : tZ Tryd.prog 131 = some (.nilFunc) := by kernel_rfl
theorem z132 : tZ Tryd.prog 132 = some (.nilFunc) := by kernel_rfl
theorem z133 : tZ Tryd.prog 133 = some (.nilFunc) := by kernel_rfl
theorem z134 : tZ Tryd.prog 134 = some (.nilFunc) := by kernel_rfl
theorem z135 : tZ Tryd.prog 135 = some (.nilFunc) := by kernel_rfl
theorem z136 : tZ Tryd.prog 136 = some (.nilFunc) := by kernel_rfl
theorem z137 : tZ Tryd.prog 137 = some (.nilFunc) := by kernel_rfl
theorem z138 : tZ Tryd.prog 138 = some (.nilFunc) := by kernel_rfl
theorem z139 : tZ Tryd.prog 139 = some (.int .u64 0) := by kernel_rfl
theorem z140 : tZ Tryd.prog 140 = some (.nilFunc) := by kernel_rfl
theorem z141 : tZ Tryd.prog 141 = some (.nilFunc) := by kernel_rfl
theorem z142 : tZ Tryd.prog 142 = some (.nilFunc) := by kernel_rfl
theorem z143 : tZ Tryd.prog 143 = some (.nilFunc) := by kernel_rfl
theorem z144 : tZ Tryd.prog 144 = some (.nilFunc) := by kernel_rfl
theorem z145 : tZ Tryd.prog 145 = some (.nilFunc) := by kernel_rfl
theorem z148 : tZ Tryd.prog 148 = some (.nilFunc) := by kernel_rfl
theorem z149 : tZ Tryd.prog 149 = some (.nilFunc) := by kernel_rfl
theorem z150 : tZ Tryd.prog 150 = some (.nilFunc) := by kernel_rfl
theorem z151 : tZ Tryd.prog 151 = some (.nilFunc) := by kernel_rfl
theorem z152 : tZ Tryd.prog 152 = some (.nilFunc) := by kernel_rfl
theorem z153 : tZ Tryd.prog 153 = some (.nilFunc) := by kernel_rfl
theorem z154 : tZ Tryd.prog 154 = some (.nilFunc) := by kernel_rfl
theorem z155 : tZ Tryd.prog 155 = some (.nilFunc) := by kernel_rfl
theorem z156 : tZ Tryd.prog 156 = some (.nilFunc) := by kernel_rfl
theorem z157 : tZ Tryd.prog 157 = some (.nilFunc) := by kernel_rfl
theorem z158 : tZ Tryd.prog 158 = some (.nilFunc) := by kernel_rfl
theorem z160 : tZ Tryd.prog 160 = some (.nilFunc) := by kernel_rfl
theorem z161 : tZ Tryd.prog 161 = some (.nilFunc) := by kernel_rfl
theorem z162 : tZ Tryd.prog 162 = some (.nilFunc) := by kernel_rfl
theorem z163 : tZ Tryd.prog 163 = some (.nilFunc) := by kernel_rfl
theorem z164 : tZ Tryd.prog 164 = some (.nilFunc) := by kernel_rfl
theorem z165 : tZ Tryd.prog 165 = some (.nilFunc) := by kernel_rfl
theorem z166 : tZ Tryd.prog 166 = some (.nilFunc) := by kernel_rfl
theorem z167 : tZ Tryd.prog 167 = some (.nilFunc) := by kernel_rfl
theorem z168 : tZ Tryd.prog 168 = some (.nilFunc) := by kernel_rfl
theorem z169 : tZ Tryd.prog 169 = some (.nilFunc) := by kernel_rfl
theorem z170 : tZ Tryd.prog 170 = some (.nilFunc) := by kernel_rfl
theorem z171 : tZ Tryd.prog 171 = some (.nilFunc) := by kernel_rfl
theorem z172 : tZ Tryd.prog 172 = some (.nilFunc) := by kernel_rfl
theorem z173 : tZ Tryd.prog 173 = some (.nilFunc) := by kernel_rfl
theorem z174 : tZ Tryd.prog 174 = some (.nilFunc) := by kernel_rfl
theorem z175 : tZ Tryd.prog 175 = some (.nilFunc) := by kernel_rfl
theorem z181 : tZ Tryd.prog 181 = some (.nilFunc) := by kernel_rfl
theorem z185 : tZ Tryd.prog 185 = some (.pointer none) := by kernel_rfl
theorem mix : Tryd.prog.follows .mixedOrders = true := by kernel_rfl
end Go.Proofs.YtjahiohlekdhoaaDoor
