/-
  The engine, part 14: guards that part a path; cuts; strings out of bytes; equality of aggregates; values built; rows grown by a number.
  The engine, part 15: calls to which own blocks are lent: the function reads them, and tells a value alone.
  From a contract to a row: what an argument that was read looks like; what a contract without handed blocks says of a call; what a row asks behind it.
  What the engine asks of this seat's types: tables, each held against the program by the kernel.
  The walks of package pack, and of what it uses of package slices.
  The walks of package ptr.
-/
import Derived.Test.YtjahiohlekdhoaaDoorRingSplitM2
import Derived.Lib.AppendZerosOnto
import Derived.Laws.BytesArg
import Derived.Laws.Tables
import Derived.Stop.BytesEq
import Derived.Scope
import Derived.AtR
import Derived.Test.YtjahiohlekdhoaaDoorProg
import Derived.WalkKit
import Derived.ProofKit
import Derived.OpenShut
import Derived.Deep.DeepHandedRow
import Derived.Lib.LaidTab
import Derived.Test.YtjahiohlekdhoaaDoorRingSplitM1
import Derived.DeepKeys
namespace Go.Proofs.YtjahiohlekdhoaaDoor
open Go

def evp (ρ : List (Nat × Value)) : List (Nat × Operand) → Option (List (Nat × Value))
  | [] => some []
  | (i, x) :: r => match ev ρ x, evp ρ r with
    | some v, some vs => some ((i, v) :: vs)
    | _, _ => none

theorem evp_map {ρ : List (Nat × Value)} {a : Operand → Value} (h : ∀ x v, ev ρ x = some v → a x = v) : ∀ {l : List (Nat × Operand)} {ps : List (Nat × Value)}, evp ρ l = some ps → l.map (fun p => (p.1, a p.2)) = ps
  | [], _, e => by cases e; rfl
  | (i, x) :: r, ps, e => by
    unfold evp at e
    split at e
    · rename_i v vs h1 h2
      cases e
      rw [List.map_cons, h x v h1, evp_map h h2]
    · cases e

/-! ### A labelled statement's scope -/
section
variable {P : Program} {b : Frame} {a : Act} {k : List Item} {cs : List Frame} {w : World} {Q : Post} {F : Fence} {n : Nat}
theorem stepR_scope {c : Code} : step P (lone (b.atR a (.code (.scope c) :: k)) cs w) = .next (lone (b.atR a (.code c :: .inScope c :: k)) cs w) :=
  step_lone_go (by simp [stepG, stepG.exec, Frame.atR])
theorem stepR_inScope {c : Code} : step P (lone (b.atR a (.inScope c :: k)) cs w) = .next (lone (b.atR a k) cs w) :=
  step_lone_go (by simp [stepG, stepG.exec, Frame.atR])
theorem wpIn_scope {c : Code} (h : c.wpIn F n P (Exit.noGoto Q) a w) : (Code.scope c).wpIn F n P Q a w := by
  intro b k cs hro hb hr
  have h0 : (lone (b.atR a (.code (.scope c) :: k)) cs w).fenced P F := fenced_calm hb hr rfl
  obtain ⟨e, a₁, w₁, hq, harr⟩ := h b (.inScope c :: k) cs hro hb hr
  cases e with
  | normal => exact ⟨.normal, a₁, w₁, hq, .head h0 stepR_scope (StepsIn.trans harr (.one (fenced_calm hb hr rfl) stepR_inScope))⟩
  | exit id' =>
    have hx : exitTo id' (.inScope c :: k) = exitTo id' k := by simp [exitTo]
    exact ⟨.exit id', a₁, w₁, hq, fun k' hk => .head h0 stepR_scope (harr.1 k' (by rw [hx]; exact hk)),
      fun hr' hk => let ⟨k₁, h1, h2⟩ := harr.2 hr' (by rw [hx]; exact hk); ⟨k₁, h1, .head h0 stepR_scope h2⟩⟩
  | goto l => exact hq.elim
  | ret => exact ⟨_, a₁, w₁, hq, .of_steps (.one h0 stepR_scope) harr⟩
  | panic ch => exact ⟨_, a₁, w₁, hq, .of_steps (.one h0 stepR_scope) harr⟩
  | outgrown => exact ⟨_, a₁, w₁, hq, .of_steps (.one h0 stepR_scope) harr⟩
end
section
variable {c : Ctx} {ρ : List (Nat × Value)} {B : List Own} {Φ : List Res} {Ψ : List JR} {Q : Post}
theorem sw_scope {x : Code} (h : SW c ρ B Φ Ψ x (Exit.noGoto Q)) : SW c ρ B Φ Ψ (.scope x) Q := fun a w hs => wpIn_scope (h a w hs)
theorem sp_ng (h : SP c ρ B Φ Ψ .normal Q) : SP c ρ B Φ Ψ .normal (Exit.noGoto Q) := fun a w hs => h a w hs
theorem sp_ng_ret (h : SP c ρ B Φ Ψ .ret Q) : SP c ρ B Φ Ψ .ret (Exit.noGoto Q) := fun a w hs => h a w hs
theorem sp_ng_exit {i : Nat} (h : SP c ρ B Φ Ψ (.exit i) Q) : SP c ρ B Φ Ψ (.exit i) (Exit.noGoto Q) := fun a w hs => h a w hs
end

/-- The bytes as a string. -/
def strB (xs : List UInt8) : ByteArray := ⟨xs.toArray⟩
theorem strB_beq (xs ys : List UInt8) : ((strB xs).toList == (strB ys).toList) = (xs == ys) := by
  rw [← beq_toListBytes]
  show (xs.toArray == ys.toArray) = (xs == ys)
  simp

section
variable {c : Ctx} {ρ : List (Nat × Value)} {B B' B0 Br Bp : List Own} {Φ Φ' Φp : List Res} {Ψ : List JR} {ops : Array Oper} {rest : List Oper} {Q : Post} {d ty t : Nat} {ps : String} {af : Array Edge} {x y z : Operand} {v u : Value} {xt yt : TypeId} {m n : Int} {kk : IntKind} {e sz by' : Nat} {ba : Option Addr} {cs : List Value} {ex : Exit}

/-- A guard that is not decided parts the path. -/
theorem g_part {o : Op} {dst : Option Tmp} {j g : Nat} {og : Oper} {want b : Bool} (_ho : ops[j]? = some og := by exact rfl) (_hd : og.dst = some g := by exact rfl) (hx : lk ρ g = some (.bool b) := by exact rfl)
    (h1 : b = true → SL c ((g, .bool true) :: ρ) B Φ Ψ ops (⟨dst, o, ty, ps, af, some (j, want)⟩ :: rest) Q) (h2 : b = false → SL c ((g, .bool false) :: ρ) B Φ Ψ ops (⟨dst, o, ty, ps, af, some (j, want)⟩ :: rest) Q) :
    SL c ρ B Φ Ψ ops (⟨dst, o, ty, ps, af, some (j, want)⟩ :: rest) Q := b_part hx h1 h2

theorem gd_yes {o : Op} {dst : Option Tmp} {j g : Nat} {og : Oper} {want b : Bool} (ho : ops[j]? = some og := by exact rfl) (hd : og.dst = some g := by exact rfl) (hx : lk ρ g = some (.bool b) := by exact rfl) (hw : b = want := by with_reducible first | rfl | exact Bool.not_true | exact Bool.not_false | exact Option.isNone_none | exact Option.isNone_some) (hb : Nat.blt g c.nt = true := by exact rfl)
    (k : SL c ρ B Φ Ψ ops (⟨dst, o, ty, ps, af, none⟩ :: rest) Q) : SL c ρ B Φ Ψ ops (⟨dst, o, ty, ps, af, some (j, want)⟩ :: rest) Q := g_yes ho hd (hw ▸ hx) hb k
theorem gd_no {o : Op} {d j g : Nat} {og : Oper} {want b : Bool} (ho : ops[j]? = some og := by exact rfl) (hd : og.dst = some g := by exact rfl) (hx : lk ρ g = some (.bool b) := by exact rfl) (hw : (!want) = b := by with_reducible first | rfl | exact Bool.not_true | exact Bool.not_false | exact Option.isNone_none | exact Option.isNone_some) (hb : Nat.blt g c.nt = true := by exact rfl) (hb' : Nat.blt d c.nt = true := by exact rfl)
    (k : SL c ((d, undef) :: ρ) B Φ Ψ ops rest Q) : SL c ρ B Φ Ψ ops (⟨some d, o, ty, ps, af, some (j, want)⟩ :: rest) Q := g_no ho hd (hw.symm ▸ hx) hb (by cases want <;> rfl) hb' k
theorem gd_no' {o : Op} {j g : Nat} {og : Oper} {want b : Bool} (ho : ops[j]? = some og := by exact rfl) (hd : og.dst = some g := by exact rfl) (hx : lk ρ g = some (.bool b) := by exact rfl) (hw : (!want) = b := by with_reducible first | rfl | exact Bool.not_true | exact Bool.not_false | exact Option.isNone_none | exact Option.isNone_some) (hb : Nat.blt g c.nt = true := by exact rfl)
    (k : SL c ρ B Φ Ψ ops rest Q) : SL c ρ B Φ Ψ ops (⟨none, o, ty, ps, af, some (j, want)⟩ :: rest) Q := g_no' ho hd (hw.symm ▸ hx) hb (by cases want <;> rfl) k
theorem yielded_undef {a : Act} {w : World} (hs : St c ρ B Φ Ψ a w) {j g : Nat} {o : Oper} (ho : ops[j]? = some o) (hd : o.dst = some g) (hx : lk ρ g = some undef) (hb : Nat.blt g c.nt = true) : yielded ops a.tmps j = none := by
  have h1 := hs.reg g _ hx
  have hlt : g < a.tmps.size := by rw [hs.nt]; simpa [Nat.blt_eq] using hb
  have h2 : a.tmps[g]? = some undef := by
    rw [Array.getD_eq_getD_getElem?] at h1
    rw [Array.getElem?_eq_getElem hlt] at h1 ⊢
    simpa using h1
  simp [yielded, ho, hd, h2, undef]
theorem gd_un {o : Op} {d j g : Nat} {og : Oper} {want : Bool} (ho : ops[j]? = some og := by exact rfl) (hd : og.dst = some g := by exact rfl) (hx : lk ρ g = some undef := by exact rfl) (hb : Nat.blt g c.nt = true := by exact rfl) (hb' : Nat.blt d c.nt = true := by exact rfl)
    (k : SL c ((d, undef) :: ρ) B Φ Ψ ops rest Q) : SL c ρ B Φ Ψ ops (⟨some d, o, ty, ps, af, some (j, want)⟩ :: rest) Q := fun a w hs => by
  have h := k _ w (hs.put hb' undef)
  have hy := yielded_undef (ops := ops) hs ho hd hx hb
  have hw : ((none : Option Bool) == some want) = false := rfl
  simp only [wpListIn, Region.wanted, hy, hw, Bool.false_eq_true, if_false]
  exact ⟨fun _ _ => trivial, h⟩
theorem swd_t {b : Bool} {X Y : Code} (hx : ev ρ x = some (.bool b) := by exact rfl) (hw : b = true := by with_reducible first | rfl | exact Bool.not_true | exact Bool.not_false | exact Option.isNone_none | exact Option.isNone_some) (h : SW c ρ B Φ Ψ X Q) : SW c ρ B Φ Ψ (.cond x X Y) Q := sw_cond_t (hw ▸ hx) h
theorem swd_f {b : Bool} {X Y : Code} (hx : ev ρ x = some (.bool b) := by exact rfl) (hw : b = false := by with_reducible first | rfl | exact Bool.not_true | exact Bool.not_false | exact Option.isNone_none | exact Option.isNone_some) (h : SW c ρ B Φ Ψ Y Q) : SW c ρ B Φ Ψ (.cond x X Y) Q := sw_cond_f (hw ▸ hx) h
theorem rd_pick_t {b : Bool} (hx : ev ρ x = some (.bool b) := by exact rfl) (hw : b = true := by with_reducible first | rfl | exact Bool.not_true | exact Bool.not_false | exact Option.isNone_none | exact Option.isNone_some) (hy : ev ρ y = some v := by exact rfl) (hb : Nat.blt d c.nt = true := by exact rfl) (k : SL c ((d, v) :: ρ) B Φ Ψ ops rest Q) : SL c ρ B Φ Ψ ops (⟨some d, .pick x y z, ty, ps, af, none⟩ :: rest) Q := r_pick_t (hw ▸ hx) hy hb k
theorem rd_pick_f {b : Bool} (hx : ev ρ x = some (.bool b) := by exact rfl) (hw : b = false := by with_reducible first | rfl | exact Bool.not_true | exact Bool.not_false | exact Option.isNone_none | exact Option.isNone_some) (hy : ev ρ z = some v := by exact rfl) (hb : Nat.blt d c.nt = true := by exact rfl) (k : SL c ((d, v) :: ρ) B Φ Ψ ops rest Q) : SL c ρ B Φ Ψ ops (⟨some d, .pick x y z, ty, ps, af, none⟩ :: rest) Q := r_pick_f (hw ▸ hx) hy hb k

/-- Code whose ends are one state. -/
def CutQ (c : Ctx) (ρ : List (Nat × Value)) (B : List Own) (Φ : List Res) (Ψ : List JR) : Post
  | .normal, a, w => St c ρ B Φ Ψ a w
  | _, _, _ => False
theorem sw_cut (ρ' : List (Nat × Value)) (B' : List Own) (Φ' : List Res) (Ψ' : List JR) {X Y : Code} (h : SW c ρ B Φ Ψ X (CutQ c ρ' B' Φ' Ψ')) (k : SW c ρ' B' Φ' Ψ' Y Q) : SW c ρ B Φ Ψ (.seq X Y) Q :=
  sw_seq fun a w hs => wpIn_mono (h a w hs) fun e a' w' q => by
    cases e with
    | normal => exact k a' w' q
    | _ => exact q.elim
theorem sp_cut {ρ' : List (Nat × Value)} (hρ : LkAll ρ ρ') (hΦ : PhAll Φ Φ') : SP c ρ B Φ Ψ .normal (CutQ c ρ' B Φ' Ψ) := fun a w hs => Ent.mk' (c := c) (B := B) (Ψ := Ψ) hρ hΦ a w hs

theorem sp_re {t : Nat} {v v' : Value} (hx : lk ρ t = some v) (e : v = v') (k : SP c ((t, v') :: ρ) B Φ Ψ ex Q) : SP c ρ B Φ Ψ ex Q := fun a w hs => k a w ⟨hs.nt, fun s u hu => by
  rw [lk_cons] at hu
  split at hu
  · rename_i e'; subst e'; cases hu; rw [← e]; exact hs.reg _ _ hx
  · exact hs.reg s u hu, hs.dfr, hs.mem⟩
theorem sp_cutB {ρ' : List (Nat × Value)} (hρ : LkAll ρ ρ') (hΦ : PhAll Φ Φ') (hB : B = B') : SP c ρ B Φ Ψ .normal (CutQ c ρ' B' Φ' Ψ) := hB ▸ sp_cut hρ hΦ

/-- 'string(s)' of bytes. -/
theorem r_str {s : BS} {st dt : TypeId} (hs' : tSl c.P st = some (e, 1, 1)) (he : tInt c.P e = some .u8) (hd : c.P.underlying dt = some .string) (hx : ev ρ x = some s.v) (hm : s.res ∈ Φ) (hb : Nat.blt d c.nt = true) (k : SL c ((d, .string (strB s.xs)) :: ρ) B Φ Ψ ops rest Q) :
    SL c ρ B Φ Ψ ops (⟨some d, .convert st dt x, ty, ps, af, none⟩ :: rest) Q :=
  r_val rfl (fun _ => by simp) rfl hb (fun a w hs => by
    obtain ⟨V, U, M, ms⟩ := hs.mem
    obtain ⟨hu, _⟩ := tSl_inv hs'
    have hk : c.P.underlying e = some (.int .u8) := by
      unfold tInt at he
      split at he
      · rename_i h; cases he; exact h
      · cases he
    have hmem := ms.phi _ hm
    have key : (convert st dt s.v).run c.P w = .ok (.string (strB s.xs)) w := by
      obtain ⟨sb, scap, xs⟩ := s
      cases sb with
      | none =>
        have hn : xs = [] := by
          cases xs with
          | nil => rfl
          | cons x r => obtain ⟨ad, h, _⟩ := hmem 0 (v8 x) rfl; cases h
        subst hn
        exact run_convert_bytes_nil w st e hu hk 0 scap dt hd
      | some a =>
        have hl : (loadCells a xs.length).run c.P w = .ok ((xs.map fun b => (b.toNat : Int)).map (Value.int .u8)).toArray w := by
          have := run_loadCells_list (P := c.P) w a (bv xs) (fun j v hj => by
            obtain ⟨a', ha, _, hc⟩ := hmem j v hj
            cases ha; exact hc)
          rw [bv_len] at this
          rw [this]
          simp [bv, Function.comp_def]
        show (convert st dt (.slice (some a) xs.length scap)).run c.P w = _
        rw [run_convert_bytes_string w st dt e _ xs.length scap hu hk hd, run_bytesToString w a xs.length scap _ hl, foldl_push_bytes]
        simp [strB, ByteArray.empty, ByteArray.emptyWithCapacity, Function.comp_def]
        rfl
    simp only [execOp, hs.ev hx, Sem.run_bind, key, Result.andThen_ok, Sem.run_pure]) k
theorem r_streq {xs ys : List UInt8} (hx : ev ρ x = some (.string (strB xs))) (hy : ev ρ y = some (.string (strB ys))) (hb : Nat.blt d c.nt = true) (k : SL c ((d, .bool (xs == ys)) :: ρ) B Φ Ψ ops rest Q) :
    SL c ρ B Φ Ψ ops (⟨some d, .binOp .eql xt x y yt, ty, ps, af, none⟩ :: rest) Q := r_bin hx hy hb (fun w => by
      have := strB_beq xs ys
      simp [eqGuard, binOp, Op.stringOp, this]) k

/-- '==' of structs, of arrays. -/
theorem r_eqagg {xs ys : Array Value} {r : Bool} (hx : ev ρ x = some (.agg xs)) (hy : ev ρ y = some (.agg ys)) (hg : c.P.eqGuardType c.P.depth xt = false) (heq : ∀ w, (Op.equalIn 10000 xt (.agg xs) (.agg ys)).run c.P w = .ok r w) (hb : Nat.blt d c.nt = true)
    (k : SL c ((d, .bool r) :: ρ) B Φ Ψ ops rest Q) : SL c ρ B Φ Ψ ops (⟨some d, .binOp .eql xt x y yt, ty, ps, af, none⟩ :: rest) Q := r_bin hx hy hb (fun w => by
      rw [Sem.run_bind, run_eqGuard_agg w .eql xt x y xs ys hg, Result.andThen_ok, run_eql_struct, heq, Result.andThen_ok]) k
theorem r_neagg {xs ys : Array Value} {r : Bool} (hx : ev ρ x = some (.agg xs)) (hy : ev ρ y = some (.agg ys)) (hg : c.P.eqGuardType c.P.depth xt = false) (heq : ∀ w, (Op.equalIn 10000 xt (.agg xs) (.agg ys)).run c.P w = .ok r w) (hb : Nat.blt d c.nt = true)
    (k : SL c ((d, .bool (!r)) :: ρ) B Φ Ψ ops rest Q) : SL c ρ B Φ Ψ ops (⟨some d, .binOp .neq xt x y yt, ty, ps, af, none⟩ :: rest) Q := r_bin hx hy hb (fun w => by
      rw [Sem.run_bind, run_eqGuard_agg w .neq xt x y xs ys hg, Result.andThen_ok, run_neq_struct, heq, Result.andThen_ok]) k

/-- A value built of parts. -/
theorem r_buildP {parts : List (Nat × Operand)} {ps' : List (Nat × Value)} (cells : List Value) (hx : evp ρ parts = some ps') (h : c.P.built t ps' = some cells.toArray) (hb : Nat.blt d c.nt = true) (k : SL c ((d, .agg cells.toArray) :: ρ) B Φ Ψ ops rest Q) :
    SL c ρ B Φ Ψ ops (⟨some d, .build t parts.toArray, ty, ps, af, none⟩ :: rest) Q :=
  r_build (ps' := ps') (_zc := #[]) (fun a ha => by
    have := evp_map ha hx
    simpa using this) (fun w => run_build w t _ _ (by simpa using h)) hb k

/-- 'a[i]' of an array's value. -/
theorem r_index {i len s : Nat} (ht : tAr c.P t = some (len, e, 1)) (he : tSz c.P e = some (false, s)) (hx : ev ρ x = some (.agg cs.toArray)) (hy : ev ρ y = some (.int kk m)) (h0 : 0 ≤ m) (h1 : m < len) (hi : m.toNat = i) (hv : cs[i]? = some v) (hb : Nat.blt d c.nt = true) (k : SL c ((d, v) :: ρ) B Φ Ψ ops rest Q) :
    SL c ρ B Φ Ψ ops (⟨some d, .index t x y, ty, ps, af, none⟩ :: rest) Q :=
  r_val rfl (fun _ => by simp) rfl hb (fun a w hs => by
    obtain ⟨hu, ii, hii, hsz⟩ := tAr_inv ht
    subst hi
    have hv' : cs.toArray[m.toNat]? = some v := by simpa using hv
    simp [execOp, hs.ev hx, hs.ev hy, Instr.index, asIntOf, run_underlying hu, h0, h1, sizeOf, typeInfo, hii, hsz, part, run_isAgg he, hv]) k

/-- 'append(nil, make([]T, n)...)'. -/
theorem r_growNil {nn : Nat} {at1 at2 : TypeId} {z0 : Value} {kn : IntKind} (ht : tSl c.P at1 = some (e, 1, 1)) (htn : tInt c.P at2 = some kn) (hz : tZ c.P e = some z0) (hx : ev ρ x = some (.slice none 0 0)) (hy : ev ρ y = some (.int kk (nn : Int))) (h0 : 0 < nn) (hn : nn ≤ 140737488355328) (hz1 : z0.cells.size = 1) (hb : Nat.blt d c.nt = true)
    (k : ∀ (v : Value) (zs : List Value), zs.length = nn → SL c ((d, v) :: ρ) (.row v nn zs e 1 :: B) Φ Ψ ops rest Q) :
    SL c ρ B Φ Ψ ops (⟨some d, .call ⟨.builtin .append, #[x, y], #[at1, at2]⟩, ty, ps, af, none⟩ :: rest) Q :=
  sl_plain rfl fun a w hs K hK => by
    obtain ⟨hu, ii, hii, hsz, hby⟩ := tSl_inv ht
    have hz' : ii.zero = some z0 := by unfold tZ at hz; simpa [hii] using hz
    have hk : c.P.underlying at2 = some (.int kn) := by
      unfold tInt at htn
      split at htn
      · rename_i h; cases htn; exact h
      · cases htn
    have hr := Lib.run_append_nil_zeros (P := c.P) w at1 at2 ty e ii z0 kk kn hu hk hii hz' nn h0 (by omega) (by omega) (by rw [hby]; omega)
    have hlen : ∀ q, (Builtin.zeroCells z0.cells q).size = q := fun q => by simp [Builtin.zeroCells, hz1]
    have hge := grownCap_ge w nn 0 e
    have hle := grownCap_le_maxLen w nn 0 e (by unfold maxLen; omega)
    generalize grownCap w nn 0 e = G at *
    obtain ⟨cur, hcur⟩ : ∃ cur, cur = Builtin.zeroCells z0.cells nn ++ Builtin.zeroCells z0.cells (G - nn) := ⟨_, rfl⟩
    have hcs : cur.size = G := by rw [hcur]; simp [hlen]; omega
    rw [← hcur] at hr
    have hown : ((w.drew.alloc (.cells cur e)).ownsRow 0 e 1 (.slice (some ⟨w.heap.size, 0, none⟩) nn G) nn (cur.toList.take nn)) := by
      refine ⟨by simp [hcs]; omega, .inr ⟨w.heap.size, G, cur, rfl, Nat.zero_le _, ?_, hge, hle, by omega, by simp⟩⟩
      exact heap_alloc_new w.drew _
    refine op_value (v := .slice (some ⟨w.heap.size, 0, none⟩) nn G) (w' := w.drew.alloc (.cells cur e)) (fun _ => by simp) ?_ (hK _ _ (k (.slice (some ⟨w.heap.size, 0, none⟩) nn G) (cur.toList.take nn) (by simp [hcs]; omega) _ _ ?_))
    · simp [execOp, resolve, invoke, builtin, hs.ev hx, hs.ev hy, hr]
    · obtain ⟨V, U, M, m⟩ := hs.mem
      have hg : w.grownBy (w.drew.alloc (.cells cur e)) none := ⟨rfl, rfl, rfl, by rw [World.size_alloc]; exact Nat.le_succ _, fun k hk _ => heap_alloc_old w.drew _ k hk⟩
      obtain ⟨V', U', m'⟩ := m.newRow hown (fun b h => by simp [Value.ownBlock] at h; omega) hg
      exact (hs.put hb _).mem' rfl m'

/-- 's[:k]' of a row of one's own: the row is shorter. -/
theorem r_row_cut {nn kq : Nat} {xs : List Value} (ht : tSl c.P t = some (e, sz, by')) (hx : ev ρ x = some v) (hy : ev ρ y = some (.int kk (kq : Int))) (hk : kq ≤ nn) (hnn : 0 < nn) (hb : Nat.blt d c.nt = true)
    (k : ∀ v', v'.cells = #[v'] → v'.oneCell' = true → SL c ((d, v') :: ρ) (.row v' kq (xs.take (kq * sz)) e sz :: B) Φ Ψ ops rest Q) :
    SL c ρ (.row v nn xs e sz :: B) Φ Ψ ops (⟨some d, .slice t x none (some y) none, ty, ps, af, none⟩ :: rest) Q :=
  sl_plain rfl fun a w hs K hK => by
    obtain ⟨hu, ii, hii, hsz, hby⟩ := tSl_inv ht
    obtain ⟨V, U, M, m⟩ := hs.mem
    have hown : w.ownsRow 0 e sz v nn xs := m.sep.holds _ (.head _)
    obtain ⟨hlen, hh⟩ := hown
    rcases hh with ⟨_, h0⟩ | ⟨g, cap, cur, rfl, hg0, hg, hnc, hcm, hcs, htake⟩
    · omega
    · have hcap : kq ≤ cap := by omega
      refine op_value (v := .slice (some ⟨g, 0, none⟩) kq cap) (w' := w) (fun _ => by simp) ?_ (hK _ _ (k (.slice (some ⟨g, 0, none⟩) kq cap) rfl rfl _ _ ?_))
      · simp [execOp, hs.ev hx, hs.ev hy, Instr.sliceAt, Instr.slice, run_underlying hu, Instr.sliceBounds, Instr.sliceBound, asIntOf, sizeOf, typeInfo, hii, hcap, add_zero]
      · refine (hs.put hb _).mem' rfl (m.turn .hd rfl ?_ rfl fun _ _ => rfl)
        refine ⟨?_, .inr ⟨g, cap, cur, rfl, hg0, hg, hcap, hcm, hcs, ?_⟩⟩
        · rw [List.length_take, hlen]
          have := Nat.mul_le_mul_right sz hk
          omega
        · rw [← htake, List.take_take]
          have := Nat.mul_le_mul_right sz hk
          congr 1; omega
end
end Go.Proofs.YtjahiohlekdhoaaDoor

namespace Go.Proofs.YtjahiohlekdhoaaDoor
open Go
section
variable {c : Ctx} {ρ : List (Nat × Value)} {B : List Own} {Φ Φp : List Res} {Ψ : List JR} {ops : Array Oper} {rest : List Oper} {Q : Post} {d ty t : Nat} {ps : String} {af : Array Edge} {v : Value}

/-- What blocks entail, where they are not avoided. -/
def Lent (Bl : List Own) (Φ : List Res) (φ : Res) : Prop := ∀ V w, (∀ o ∈ Bl, o.holds w) → (∀ b, blks Bl b → ¬ V b) → (∀ ψ ∈ Φ, ψ.p V w) → φ.p V w

theorem r_call1L {f : FuncId} {args cap : List Value} {l : List Operand} {vs : List Value} {at' : Array TypeId} {fo : Operand} (hc : Ctr c.P c.G f args [] Φp (ret1 v)) (Bl : List Own) (hf : ev ρ fo = some (.func (.func f) #[] cap.toArray)) (hargs : evs ρ l = some vs) (ha : args = vs ++ cap)
    (hBl : Bl.Sublist B) (hΦ : ∀ φ ∈ Φp, Lent Bl Φ φ) (hb : Nat.blt d c.nt = true) (k : SL c ((d, v) :: ρ) B Φ Ψ ops rest Q) : SL c ρ B Φ Ψ ops (⟨some d, .call ⟨.value fo, l.toArray, at'⟩, ty, ps, af, none⟩ :: rest) Q :=
  sl_plain rfl fun a w hs K hK => by
    obtain ⟨V, U, M, m⟩ := hs.mem
    refine ⟨fun _ _ => trivial, ?_⟩
    have hsem : ∀ o : Oper, (∀ c, o.op ≠ .defer c) → (o.semAt (Fr c.r).round a.eval) = execOp a.eval o := fun o ho => Oper.semAt_eq _ _ _ ho
    rw [hsem _ (fun _ => by simp)]
    have hmap : l.toArray.map a.eval = vs.toArray := by rw [List.map_toArray, hs.evs hargs]
    have hrun : (execOp a.eval ⟨some d, .call ⟨.value fo, l.toArray, at'⟩, ty, ps, af, none⟩).run c.P w = .ok (.enter f args.toArray) w := by
      simp only [execOp, resolve, hs.ev hf, Deferred.ofValue, invoke, Sem.run_bind, Sem.run_pure, Result.andThen_ok, hmap]
      rw [hc.enters]
      congr 2
      rw [ha]; simp
    rw [hrun]
    have hno : ∀ b, ¬ blks ([] : List Own) b := fun b ⟨o, ho, _⟩ => by cases ho
    have hless : ∀ b, Or' (fun b => V b ∧ ¬ blks Bl b) (blks []) b → V b := fun b h => h.elim (fun h => h.1) fun h => (hno b h).elim
    refine ⟨fun h => (by cases h), callsIn_fr (Calls.mono (hc.calls w (fun b => V b ∧ ¬ blks Bl b) (fun b h => m.vlt b h.1) ⟨fun o ho => (by cases ho), .nil⟩ (fun b h => (hno b h).elim) (fun φ hφ => hΦ φ hφ _ w (fun o ho => m.sep.holds o (hBl.subset ho)) (fun b hb h => ?_) fun ψ hψ => ψ.less (m.phi ψ hψ) hless) (c.G.less m.g hless)) ?_)⟩
    · exact h.elim (fun h => h.2 hb) (hno b)
    · rintro e w' ⟨v', B', Φ', rfl, ⟨rfl, rfl, rfl⟩, hm, hsep, hbl, hphi, ⟨hsz, hio⟩, hkept⟩
      have hk : ∀ b, b < w.heap.size → w'.heap[b]? = w.heap[b]? := fun b hl => hkept b hl (hno b)
      have kk : ∀ V : Av, Kept V V w w' := fun V => ⟨hsz, fun b hl _ => hk b hl, fun b _ h => h⟩
      refine hK _ _ (k _ _ ((hs.put hb v').mem' rfl (V := V) (U := U) (M := M) ⟨m.vx, m.vm, m.vb, fun b h => Nat.lt_of_lt_of_le (m.vlt b h) hsz, m.ub, fun b h => Nat.lt_of_lt_of_le (m.ult b h) hsz, m.sep.keep fun b hb => hk b (m.sep.lt hb), m.own, fun φ hφ => φ.st (kk V) (m.phi φ hφ), fun ψ hψ => ψ.st (kk U) (m.psi ψ hψ), c.G.st (kk V) m.g, Nat.le_trans m.sz hsz,
        fun b h1 h2 h3 => (hk b (by have := m.sz; omega)).trans (m.frame b h1 h2 h3), m.xlt, m.mo, m.io.trans hio⟩))
/-- A fact of the state is lent. -/
theorem lent_of {Bl : List Own} {φ : Res} (h : φ ∈ Φ) : Lent Bl Φ φ := fun _ _ _ _ hw => hw φ h
/-- A cut of a box. -/
theorem lent_box {Bl : List Own} {b l n : Nat} {cs : List Value} {bt : TypeId} (h : Own.box b cs bt ∈ Bl) : Lent Bl Φ (Res.mem (some ⟨b, l, none⟩) (part' cs l n)) := fun V w hh hv _ i v hi => by
  obtain ⟨h1, h2⟩ := part'_get hi
  exact ⟨_, rfl, hv b ⟨_, h, rfl⟩, by rw [addr_add, box_cell (hh _ h)]; exact h2⟩
end
end Go.Proofs.YtjahiohlekdhoaaDoor

namespace Go.Proofs.YtjahiohlekdhoaaDoor
open Go Go.ChangeShapes Go.WideShapes Go.RowKit

/-- Nothing is avoided. -/
def V0 : Av := Or' NoAv (blks [])
theorem not_V0 (b : Nat) : ¬ V0 b := by
  rintro (h | ⟨o, ho, _⟩)
  · exact h
  · cases ho

/-- What a contract without handed blocks says of a call from any world. -/
theorem Ctr.below {P : Program} {G : Res} {f : FuncId} {args : List Value} {Φ : List Res} {v : Value} (h : Ctr P G f args [] Φ (ret1 v)) {w : World} (hΦ : ∀ φ ∈ Φ, φ.p V0 w) (hG : G.p V0 w) :
    Calls P f args.toArray w fun e w' => e = .returned v ∧ RowKit.Below w.heap.size w w' := by
  refine (h.calls w NoAv (fun _ h => h.elim) ⟨fun o ho => (by cases ho), .nil⟩ (fun b hb => (by obtain ⟨o, ho, _⟩ := hb; cases ho)) hΦ hG).mono ?_
  rintro e w' ⟨v', B', Φ', rfl, ⟨rfl, _, _⟩, _, _, _, _, ⟨hsz, hio⟩, hk⟩
  exact ⟨rfl, hio.1, hio.2.2, hio.2.1, hsz, fun k hk' => hk k hk' fun ⟨o, ho, _⟩ => (by cases ho)⟩

/-! ### Readings opened -/
/-- What is read at this type are cells of this shape, of which this holds. -/
def Rd (P : Program) (t : TypeId) {α : Type} (cs : α → List Value) (R : α → World → Prop) : Prop :=
  ∀ {H : Type} {enc : TypeId × Value → H} {w : World} {base : Nat} {spare : Nat → Bool} {held : Bool} {fuel : Nat} {cells : List Value} {x : DataW H × List MemPlace},
    DataW.trod enc P w base spare held fuel t cells = some x → ∃ a, cells = cs a ∧ R a w

section
variable {P : Program} {t e : TypeId}
theorem rd_bool (ht : P.underlying t = some .bool) : Rd P t (fun b : Bool => [vb b]) fun _ _ => True := by
  intro H enc w base spare held fuel cells x h
  obtain ⟨b, rfl, _⟩ := DataW.trod_bool ht h
  exact ⟨b, rfl, trivial⟩
theorem rd_u8 (ht : P.underlying t = some (.int .u8)) : Rd P t (fun b : UInt8 => [v8 b]) fun _ _ => True := by
  intro H enc w base spare held fuel cells x h
  obtain ⟨n, rfl, _, hw⟩ := DataW.trod_int ht h
  simp [Lit.wf, IntKind.min, IntKind.max, IntKind.signed, IntKind.bits] at hw
  refine ⟨UInt8.ofNat n.toNat, ?_, trivial⟩
  have : ((UInt8.ofNat n.toNat).toNat : Int) = n := by rw [UInt8.toNat_ofNat']; omega
  show [Value.int .u8 n] = [Value.int .u8 _]
  rw [this]
theorem rd_u16 (ht : P.underlying t = some (.int .u16)) : Rd P t (fun b : UInt16 => [v16 b]) fun _ _ => True := by
  intro H enc w base spare held fuel cells x h
  obtain ⟨n, rfl, _, hw⟩ := DataW.trod_int ht h
  simp [Lit.wf, IntKind.min, IntKind.max, IntKind.signed, IntKind.bits] at hw
  refine ⟨UInt16.ofNat n.toNat, ?_, trivial⟩
  have : ((UInt16.ofNat n.toNat).toNat : Int) = n := by rw [UInt16.toNat_ofNat']; omega
  show [Value.int .u16 n] = [Value.int .u16 _]
  rw [this]
theorem rd_u32 (ht : P.underlying t = some (.int .u32)) : Rd P t (fun b : UInt32 => [v32 b]) fun _ _ => True := by
  intro H enc w base spare held fuel cells x h
  obtain ⟨n, rfl, _, hw⟩ := DataW.trod_int ht h
  simp [Lit.wf, IntKind.min, IntKind.max, IntKind.signed, IntKind.bits] at hw
  refine ⟨UInt32.ofNat n.toNat, ?_, trivial⟩
  have : ((UInt32.ofNat n.toNat).toNat : Int) = n := by rw [UInt32.toNat_ofNat']; omega
  show [Value.int .u32 n] = [Value.int .u32 _]
  rw [this]
theorem rd_u64 (ht : P.underlying t = some (.int .u64)) : Rd P t (fun b : UInt64 => [v64 b]) fun _ _ => True := by
  intro H enc w base spare held fuel cells x h
  obtain ⟨n, rfl, _, hw⟩ := DataW.trod_int ht h
  simp [Lit.wf, IntKind.min, IntKind.max, IntKind.signed, IntKind.bits] at hw
  refine ⟨UInt64.ofNat n.toNat, ?_, trivial⟩
  have : ((UInt64.ofNat n.toNat).toNat : Int) = n := by rw [UInt64.toNat_ofNat']; omega
  show [Value.int .u64 n] = [Value.int .u64 _]
  rw [this]
def i64ok (n : Int) : Prop := -9223372036854775808 ≤ n ∧ n ≤ 9223372036854775807
theorem rd_int (ht : P.underlying t = some (.int .i64)) : Rd P t (fun n : Int => [vi n]) fun n _ => i64ok n := by
  intro H enc w base spare held fuel cells x h
  obtain ⟨n, rfl, _, hw⟩ := DataW.trod_int ht h
  simp [Lit.wf, IntKind.min, IntKind.max, IntKind.signed, IntKind.bits] at hw
  exact ⟨n, rfl, by unfold i64ok; omega⟩

/-- A slice that was read. -/
structure Sl (α : Type) where
  ba : Option Addr
  cap : Nat
  xs : List α
def Sl.v {α : Type} (s : Sl α) : Value := .slice s.ba s.xs.length s.cap
def Sl.ok {α : Type} (s : Sl α) : Prop := s.xs.length ≤ s.cap ∧ s.cap ≤ maxLen
theorem Sl.len {α : Type} {s : Sl α} (h : s.ok) : s.xs.length ≤ maxLen := Nat.le_trans h.1 h.2

theorem cells?_some {w : World} {base : Nat} {a : Addr} {n : Nat} {cs : List Value} (h : w.cells? base a n = some cs) : cs.length = n ∧ ∀ i v, cs[i]? = some v → w.cell? (a.add i) = some v := by
  unfold World.cells? at h
  split at h
  · refine ⟨by simpa using mapM_some_length h, fun i v hv => ?_⟩
    have hl : cs.length = n := by simpa using mapM_some_length h
    have hi : i < n := by
      rcases Nat.lt_or_ge i cs.length with h' | h'
      · omega
      · rw [List.getElem?_eq_none h'] at hv; cases hv
    have := mapM_some_get h i i (by simp [hi])
    rw [this, hv]
  · cases h

theorem flat_cells {α : Type} {cs : α → List Value} {n : Nat} (hn : ∀ a, (cs a).length = n) (h0 : 0 < n) {w : World} {a : Addr} : ∀ (l : List α) (k : Nat), (∀ i x, l[i]? = some x → ∀ j v, (cs x)[j]? = some v → w.cell? (a.add ((k + i) * n + j)) = some v) →
    ∀ i v, (l.flatMap cs)[i]? = some v → w.cell? (a.add (k * n + i)) = some v
  | [], _, _, i, v, h => by simp at h
  | x :: l, k, hl, i, v, h => by
    rw [List.flatMap_cons] at h
    rcases Nat.lt_or_ge i n with hi | hi
    · rw [List.getElem?_append_left (by rw [hn]; exact hi)] at h
      exact hl 0 x rfl i v h
    · rw [List.getElem?_append_right (by rw [hn]; exact hi), hn] at h
      have := flat_cells hn h0 l (k + 1) (fun i y hy j u hu => by
        have := hl (i + 1) y hy j u hu
        rwa [show k + (i + 1) = k + 1 + i by omega] at this) (i - n) v h
      rwa [show (k + 1) * n + (i - n) = k * n + i by rw [Nat.succ_mul]; omega] at this

theorem rd_slice {α : Type} {cs : α → List Value} {R : α → World → Prop} {n : Nat} (ht : P.underlying t = some (.slice e)) (he : Rd P e cs R) (hn : ∀ a, (cs a).length = n) (hc : P.cellsOf e = n) (h0 : Nat.blt 0 n = true) :
    Rd P t (fun s : Sl α => [s.v]) fun s w => s.ok ∧ (Res.mem s.ba (s.xs.flatMap cs)).p V0 w ∧ ∀ a ∈ s.xs, R a w := by
  intro H enc w base spare held fuel cells x h
  have h0' : 0 < n := by simpa [Nat.blt_eq] using h0
  rcases DataW.trod_slice ht h with ⟨rfl, _⟩ | ⟨a, len, cap, elems, rest, m, _, rfl, _, _, hl, hcap, hel, hall, _, _⟩
  · exact ⟨⟨none, 0, []⟩, rfl, ⟨Nat.le_refl _, Nat.zero_le _⟩, fun i v h => by simp at h, fun a ha => by simp at ha⟩
  · have key : ∀ k, k ≤ len → ∃ xs : List α, xs.length = k ∧ (∀ i x, xs[i]? = some x → R x w ∧ ∀ j v, (cs x)[j]? = some v → w.cell? (a.add (i * n + j)) = some v) := by
      intro k
      induction k with
      | zero => exact fun _ => ⟨[], rfl, fun i x h => by simp at h⟩
      | succ k ih =>
        intro hk
        obtain ⟨xs, hxl, hxs⟩ := ih (by omega)
        have h1 := hall k (by omega)
        have h2 : ∃ y, elems[k]? = some y := ⟨elems[k]'(by omega), List.getElem?_eq_getElem (by omega)⟩
        obtain ⟨y, hy⟩ := h2
        rw [hy, Option.bind_eq_some_iff] at h1
        obtain ⟨cells, hcl, htr⟩ := h1
        obtain ⟨z, rfl, hz⟩ := he htr
        obtain ⟨_, hcs⟩ := cells?_some hcl
        refine ⟨xs ++ [z], by simp [hxl], fun i x hi => ?_⟩
        rcases Nat.lt_or_ge i k with h | h
        · rw [List.getElem?_append_left (by omega)] at hi
          exact hxs i x hi
        · rw [List.getElem?_append_right (by omega), hxl] at hi
          have hik : i = k := by
            rcases Nat.lt_or_ge (i - k) 1 with h' | h'
            · omega
            · rw [List.getElem?_eq_none (by simpa using h')] at hi; cases hi
          subst hik
          simp at hi
          subst hi
          refine ⟨hz, fun j v hv => ?_⟩
          have := hcs j v hv
          rwa [add_add, hc] at this
    obtain ⟨xs, hxl, hxs⟩ := key len (Nat.le_refl _)
    refine ⟨⟨some a, cap, xs⟩, by simp [Sl.v, hxl], ⟨by rw [hxl]; exact hl, hcap⟩, fun i v hv => ?_, fun x hx => ?_⟩
    · refine ⟨a, rfl, not_V0 _, ?_⟩
      have := flat_cells hn h0' (w := w) (a := a) xs 0 (fun i x hx j u hu => by rw [Nat.zero_add]; exact (hxs i x hx).2 j u hu) i v hv
      simpa using this
    · obtain ⟨i, hi⟩ := List.mem_iff_getElem?.1 hx
      exact (hxs i x hi).1

/-- An array of things of one cell. -/
theorem rd_array1 {α : Type} {c : α → Value} {R : α → World → Prop} {n : Nat} (ht : P.underlying t = some (.array n e)) (he : Rd P e (fun a => [c a]) R) (hc : P.cellsOf e = 1) (hct : P.cellsOf t = n) :
    Rd P t (fun l : { l : List α // l.length = n } => l.1.map c) fun l w => ∀ a ∈ l.1, R a w := by
  intro H enc w base spare held fuel cells x h
  obtain ⟨ys, m, _, _, hl, hyl, hall⟩ := DataW.trod_array ht h
  rw [hct] at hl
  have key : ∀ k, k ≤ n → ∃ l : List α, l.length = k ∧ cells.take k = l.map c ∧ ∀ a ∈ l, R a w := by
    intro k
    induction k with
    | zero => exact fun _ => ⟨[], rfl, by simp, fun a ha => by cases ha⟩
    | succ k ih =>
      intro hk
      obtain ⟨l, hll, htk, hR⟩ := ih (by omega)
      have h1 := hall k (by omega)
      rw [hc, Nat.mul_one, List.getElem?_eq_getElem (by omega)] at h1
      obtain ⟨a, ha, hRa⟩ := he h1
      refine ⟨l ++ [a], by simp [hll], ?_, fun b hb => ?_⟩
      · have hd : (cells.drop k).take 1 = [cells[k]'(by omega)] := by
          rw [List.drop_eq_getElem_cons (show k < cells.length by omega)]; rfl
        rw [hd] at ha
        rw [List.take_succ_eq_append_getElem (by omega), htk, List.map_append]
        simp only [List.map_cons, List.map_nil, List.cons.injEq, and_true] at ha ⊢
        rw [ha]
      · rcases List.mem_append.1 hb with h | h
        · exact hR b h
        · simp at h; subst h; exact hRa
  obtain ⟨l, hll, htk, hR⟩ := key n (Nat.le_refl _)
  exact ⟨⟨l, hll⟩, by show cells = l.map c; rw [← htk, List.take_of_length_le (by omega)], hR⟩

/-- A struct: its cells, field by field. -/
theorem rd_fields {fs : Array Field} (ht : P.underlying t = some (.struct fs)) {H : Type} {enc : TypeId × Value → H} {w : World} {base : Nat} {spare : Nat → Bool} {held : Bool} {fuel : Nat} {cells : List Value} {x : DataW H × List MemPlace}
    (h : DataW.trod enc P w base spare held fuel t cells = some x) : cells.length = P.cellsOf t ∧ ∀ (i : Nat) (f : Field), fs[i]? = some f → ∃ (n : Nat) (y : DataW H × List MemPlace), DataW.trod enc P w base spare held n f.type ((cells.drop f.offset).take (P.cellsOf f.type)) = some y := by
  obtain ⟨xs, n, _, _, hl, hxl, hall⟩ := DataW.trod_struct ht h
  refine ⟨hl, fun i f hf => ?_⟩
  have := hall i f hf
  have hi : i < xs.length := by rw [hxl]; exact (Array.getElem?_eq_some_iff.1 hf).1
  rw [List.getElem?_eq_getElem hi] at this
  exact ⟨n, _, this⟩
end

/-- A struct's fields: type and place. -/
def fieldsOf (P : Program) (t : TypeId) : Option (List (TypeId × Nat)) := match P.underlying t with
  | some (.struct fs) => some (fs.toList.map fun f => (f.type, f.offset))
  | _ => none
theorem rd_field {P : Program} {t : TypeId} {fs : List (TypeId × Nat)} (ht : fieldsOf P t = some fs) {H : Type} {enc : TypeId × Value → H} {w : World} {base : Nat} {spare : Nat → Bool} {held : Bool} {fuel : Nat} {cells : List Value} {x : DataW H × List MemPlace}
    (h : DataW.trod enc P w base spare held fuel t cells = some x) : cells.length = P.cellsOf t ∧ ∀ {ty off : Nat} {n : Nat} {α : Type} {cs : α → List Value} {R : α → World → Prop}, (ty, off) ∈ fs → P.cellsOf ty = n → Rd P ty cs R → ∃ a, (cells.drop off).take n = cs a ∧ R a w := by
  unfold fieldsOf at ht
  split at ht
  · rename_i fs' hu
    cases ht
    obtain ⟨hl, hall⟩ := rd_fields hu h
    refine ⟨hl, fun hm hn hr => ?_⟩
    obtain ⟨f, hf, e⟩ := List.mem_map.1 hm
    cases e
    obtain ⟨i, hi⟩ := List.mem_iff_getElem?.1 hf
    obtain ⟨n, y, hy⟩ := hall i f (by simpa using hi)
    subst hn
    exact hr hy
  · cases ht

/-! ### Arguments -/
section
variable {P : Program} {w : World} {r : Reach} {b0 : Nat} {t e : TypeId} {v c : Value} {l : List Value}
theorem arg_agg (ht : (match P.underlying t with | some (.struct _) | some (.array _ _) => true | _ => false) = true) (hval : Value.okWide P w r b0 t v) (h : v.cells.toList = l) : v = .agg l.toArray := by
  unfold Value.okWide at hval
  split at hval
  · obtain ⟨cs, rfl, _⟩ := hval; subst h; rfl
  · obtain ⟨cs, rfl, _⟩ := hval; subst h; rfl
  · rename_i h1 h2
    split at ht
    · rename_i h3; exact absurd h3 (h1 _)
    · rename_i h3; exact absurd h3 (h2 _ _)
    · cases ht
theorem arg_int {k : IntKind} (ht : P.underlying t = some (.int k)) (hval : Value.okWide P w r b0 t v) (h : v.cells.toList = [c]) : v = c := by
  obtain ⟨n, rfl⟩ := okWide_int ht hval
  simpa [Value.cells] using h
theorem arg_slice (ht : P.underlying t = some (.slice e)) (hval : Value.okWide P w r b0 t v) (h : v.cells.toList = [c]) : v = c := by
  cases v with
  | agg cs => simp [Value.okWide, Cell.okWide, Cell.ok, ht] at hval
  | _ => simpa [Value.cells] using h
end

/-! ### What a row asks behind a call -/
theorem post_of_below {H : Type} {enc : TypeId × Value → H} {P : Program} {f : Func} {s : ChangeSpec} {apart fresh handsOn again : Bool} {W W' : World} {args : Array Value} {ds gs : List (DataW H)} {before : List MemPlace} {bt : TypeId}
    (hl : laidOutB P = true) (hp : (f.params.toList.all fun t => P.readableRec t && decide (t < P.types.size)) = true) (hsv : s.vars = []) (hrt : f.resultTypes = #[bt]) (hbt : P.underlying bt = some .bool)
    (hW : DataW.Whole enc P f.params.toList s.vars apart W args.toList ds gs before) (hfn : s.fn H ds = { results := [.lit (.bool true)], args := ds }) (hb : RowKit.Below W.heap.size W W') :
    s.post enc P f apart fresh handsOn again W args (.bool true) W' := by
  have hW' := hW
  obtain ⟨p, q, hA, hV, hbe, hz, hn⟩ := hW
  rw [hsv] at hV
  have hgs : gs = [] ∧ q = [] := by
    cases gs with
    | nil => exact ⟨rfl, hV⟩
    | cons g r => exact absurd hV (by intro h; cases h)
  obtain ⟨rfl, rfl⟩ := hgs
  rw [List.append_nil] at hbe
  rw [← hbe] at hA
  have hlt : ∀ x ∈ before, x.block < W.heap.size := hA.lt
  have hargs : ∀ (ts : List TypeId) (vs : List Value) (ds : List (DataW H)) (ps : List MemPlace), (ts.all fun t => P.readableRec t && decide (t < P.types.size)) = true → (∀ x ∈ ps, x.block < W.heap.size) → DataW.TrodAll enc P W 0 (fun _ => true) true ts vs ds ps →
      ∀ sp : Nat → Bool, (∀ x ∈ ps, sp x.block = true) → DataW.TrodAll enc P W' 0 sp true ts vs ds ps := by
    intro ts
    induction ts with
    | nil => intro vs ds ps _ _ h sp _; cases vs <;> cases ds <;> first | exact h | exact h.elim
    | cons t ts ih =>
      intro vs ds ps ha hps h sp hsp
      obtain ⟨v, vs', d, ds', p1, p2, rfl, rfl, rfl, h1, h2⟩ := trodAll_cons h
      simp only [List.all_cons, Bool.and_eq_true, decide_eq_true_eq] at ha
      exact ⟨p1, p2, WideElems.Trod_stays hl ha.1.1 ha.1.2 h1 (fun x hx => hb.same (hps x (List.mem_append_left _ hx))) (fun x hx => hsp x (List.mem_append_left _ hx)),
        ih vs' ds' p2 (by simpa using ha.2) (fun x hx => hps x (List.mem_append_right _ hx)) h2 sp (fun x hx => hsp x (List.mem_append_right _ hx)), rfl⟩
  have hargs' := hargs _ _ _ _ hp hlt hA
  have hold : ∀ x ∈ before, (fun b => decide (b < W.heap.size)) x.block = true := fun x hx => by simpa using hlt x hx
  have hres : ∀ (b : Nat) (sp : Nat → Bool) (hd : Bool), DataW.TrodAll enc P W' b sp hd f.resultTypes.toList ((Value.bool true).resultList f.resultTypes.size) [.lit (.bool true)] [] := by
    intro b sp hd
    rw [hrt]
    exact trodAll_mk1 (shut_bool hbt true)
  refine ⟨ds, [], before, [], before, [], hW', ?_, ?_, ?_, World.keptBut_mono (fun x hx => ⟨hx, .inr (.inl hx)⟩) (hb.frame _), fun _ => ?_⟩
  · rw [List.append_nil, hfn]; exact hres _ _ _
  · rw [List.append_nil, hfn]; exact hargs' _ hold
  · rw [List.append_nil, hfn, hsv]; rfl
  · refine ⟨ok_one hrt rfl (okWide_bool_mk hbt _), [.lit (.bool true)] ++ ds, [], (([] : List MemPlace) ++ before) ++ [], ⟨[] ++ before, [], trodAll_append ?_ (hres _ _ _), ?_, rfl, ?_, ?_⟩, ?_⟩
    · exact hargs' _ (fun _ _ => rfl)
    · rw [hsv]; rfl
    · intro b off hx
      have hx' : MemPlace.cell b off ∈ before := by simpa using hx
      rw [hb.frozen (p := ⟨b, off, none⟩) (hlt _ hx')]
      exact hz b off hx'
    · intro ha
      have := hn ha
      simpa using this
    · intro x hx _
      simpa using hx
end Go.Proofs.YtjahiohlekdhoaaDoor

namespace Go.Proofs.YtjahiohlekdhoaaDoor
open Go

def lkT {α : Type} : List (Nat × α) → Nat → Option α
  | [], _ => none
  | (k, v) :: r, t => bif Nat.beq k t then some v else lkT r t

theorem lkT_mem {α : Type} {l : List (Nat × α)} {t : Nat} {x : α} (h : lkT l t = some x) : (t, x) ∈ l := by
  induction l with
  | nil => cases h
  | cons p r ih =>
    obtain ⟨k, v⟩ := p
    unfold lkT at h
    cases hb : Nat.beq k t with
    | true => rw [hb] at h; cases h; rw [Nat.eq_of_beq_eq_true hb]; exact .head _
    | false => rw [hb] at h; exact .tail _ (ih h)

theorem tabAll {α : Type} [DecidableEq α] {l : List (Nat × α)} {f : Nat → Option α} (h : (l.all fun p => decide (f p.1 = some p.2)) = true) {t : Nat} {x : α} (hx : lkT l t = some x) : f t = some x :=
  of_decide_eq_true (List.all_eq_true.1 h _ (lkT_mem hx))

def aSz : List (Nat × (Bool × Nat)) := [(1, (false, 1)), (2, (false, 1)), (3, (false, 1)), (4, (false, 1)), (5, (false, 1)), (9, (false, 1)), (12, (false, 1)), (13, (true, 2)), (21, (false, 1)), (22, (false, 1)), (23, (false, 1)), (24, (true, 2)), (25, (false, 1)), (26, (true, 5)), (27, (true, 5)), (28, (false, 1)), (29, (true, 4)), (30, (true, 4)), (31, (true, 14)), (32, (true, 14)), (33, (true, 8)), (34, (false, 1)), (35, (false, 1)), (36, (true, 256)), (37, (true, 256)), (38, (false, 1)), (40, (false, 1)), (41, (false, 1)), (43, (false, 1)), (44, (false, 1)), (45, (false, 1)), (46, (false, 1)), (47, (false, 1)), (48, (false, 1)), (49, (true, 4)), (50, (false, 1)), (51, (false, 1)), (52, (false, 1)), (53, (false, 1)), (54, (false, 1)), (55, (false, 1)), (56, (false, 1)), (57, (false, 1)), (58, (false, 1)), (59, (true, 4)), (60, (true, 4)), (61, (true, 8)), (62, (true, 10)), (63, (true, 10)), (64, (false, 1)), (66, (false, 1)), (67, (false, 1)), (68, (false, 1)), (70, (false, 1)), (71, (false, 1)), (72, (true, 56)), (73, (true, 112)), (74, (false, 1)), (75, (false, 1)), (77, (false, 1)), (78, (true, 4)), (79, (false, 1)), (80, (false, 1)), (81, (false, 1)), (82, (false, 1)), (83, (false, 1)), (84, (false, 1)), (85, (false, 1)), (86, (false, 1)), (87, (false, 1)), (88, (false, 1)), (89, (false, 1)), (90, (false, 1)), (91, (false, 1)), (92, (false, 1)), (94, (false, 1)), (95, (true, 9)), (97, (false, 1)), (99, (false, 1)), (100, (false, 1)), (101, (false, 1)), (102, (false, 1)), (104, (false, 1)), (105, (false, 1)), (106, (false, 1)), (107, (true, 28)), (108, (false, 1)), (109, (false, 1)), (110, (false, 1)), (111, (true, 2)), (112, (true, 2)), (113, (false, 1)), (114, (false, 1)), (115, (false, 1)), (116, (false, 1)), (117, (false, 1)), (118, (false, 1)), (119, (true, 9)), (120, (false, 1)), (121, (true, 5)), (122, (true, 5)), (123, (false, 1)), (124, (false, 1)), (125, (false, 1)), (126, (false, 1)), (127, (false, 1)), (128, (false, 1)), (129, (false, 1)), (130, (false, 1)), (131, (false, 1)), (132, (false, 1)), (133, (false, 1)), (134, (false, 1)), (135, (false, 1)), (136, (false, 1)), (137, (false, 1)), (138, (false, 1)), (139, (false, 1)), (140, (false, 1)), (141, (false, 1)), (142, (false, 1)), (143, (false, 1)), (144, (false, 1)), (145, (false, 1)), (146, (true, 257)), (147, (true, 257)), (148, (false, 1)), (149, (false, 1)), (150, (false, 1)), (151, (false, 1)), (152, (false, 1)), (153, (false, 1)), (154, (false, 1)), (155, (false, 1)), (156, (false, 1)), (157, (false, 1)), (158, (false, 1)), (160, (false, 1)), (161, (false, 1)), (162, (false, 1)), (163, (false, 1)), (164, (false, 1)), (165, (false, 1)), (166, (false, 1)), (167, (false, 1)), (168, (false, 1)), (169, (false, 1)), (170, (false, 1)), (171, (false, 1)), (172, (false, 1)), (173, (false, 1)), (174, (false, 1)), (175, (false, 1)), (181, (false, 1)), (185, (false, 1))]
def aSl : List (Nat × (Nat × Nat × Nat)) := [(28, (5, 1, 1)), (47, (32, 14, 80)), (56, (37, 256, 256)), (57, (147, 257, 264)), (58, (3, 1, 8)), (129, (28, 1, 24))]
def aAr : List (Nat × (Nat × Nat × Nat)) := [(24, (2, 23, 1)), (33, (8, 5, 1)), (36, (256, 5, 1)), (37, (256, 5, 1)), (49, (4, 4, 1)), (61, (2, 60, 4)), (72, (4, 32, 14)), (73, (2, 72, 56)), (78, (4, 22, 1)), (95, (9, 25, 1)), (107, (2, 32, 14)), (119, (9, 3, 1)), (121, (5, 25, 1)), (122, (5, 3, 1))]
def aFd : List (Nat × (Nat × Bool × Nat)) := [(832, (0, false, 1)), (833, (1, false, 1)), (1664, (0, false, 1)), (1665, (1, true, 2)), (1666, (3, false, 1)), (1667, (4, false, 1)), (1728, (0, false, 1)), (1729, (1, true, 2)), (1730, (3, false, 1)), (1731, (4, false, 1)), (1856, (0, false, 1)), (1857, (1, false, 1)), (1858, (2, false, 1)), (1859, (3, false, 1)), (1920, (0, false, 1)), (1921, (1, false, 1)), (1922, (2, false, 1)), (1923, (3, false, 1)), (1984, (0, false, 1)), (1985, (1, false, 1)), (1986, (2, true, 5)), (1987, (7, false, 1)), (1988, (8, false, 1)), (1989, (9, false, 1)), (1990, (10, true, 4)), (2048, (0, false, 1)), (2049, (1, false, 1)), (2050, (2, true, 5)), (2051, (7, false, 1)), (2052, (8, false, 1)), (2053, (9, false, 1)), (2054, (10, true, 4)), (3776, (0, false, 1)), (3777, (1, false, 1)), (3778, (2, false, 1)), (3779, (3, false, 1)), (3840, (0, false, 1)), (3841, (1, false, 1)), (3842, (2, false, 1)), (3843, (3, false, 1)), (3968, (0, true, 8)), (3969, (8, false, 1)), (3970, (9, false, 1)), (4032, (0, true, 8)), (4033, (8, false, 1)), (4034, (9, false, 1)), (7104, (0, false, 1)), (7105, (1, false, 1)), (7168, (0, false, 1)), (7169, (1, false, 1)), (9344, (0, false, 1)), (9345, (1, true, 256)), (9408, (0, false, 1)), (9409, (1, true, 256))]
def aIt : List (Nat × IntKind) := [(2, IntKind.i64), (3, IntKind.i64), (5, IntKind.u8), (12, IntKind.u64), (21, IntKind.i32), (22, IntKind.u32), (23, IntKind.u16), (25, IntKind.u64), (38, IntKind.i64), (139, IntKind.u64)]

theorem aSz_ok : (aSz.all fun p => decide (tSz Tryd.prog p.1 = some p.2)) = true := by kernel_rfl
theorem aSl_ok : (aSl.all fun p => decide (tSl Tryd.prog p.1 = some p.2)) = true := by kernel_rfl
theorem aAr_ok : (aAr.all fun p => decide (tAr Tryd.prog p.1 = some p.2)) = true := by kernel_rfl
theorem aFd_ok : (aFd.all fun p => decide (tFd Tryd.prog (p.1 / 64) (p.1 % 64) = some p.2)) = true := by kernel_rfl
theorem aIt_ok : (aIt.all fun p => decide (tInt Tryd.prog p.1 = some p.2)) = true := by kernel_rfl
theorem tz {t : Nat} {x : Bool × Nat} (h : lkT aSz t = some x) : tSz Tryd.prog t = some x := tabAll (f := tSz Tryd.prog) aSz_ok h
theorem tl {t : Nat} {x : Nat × Nat × Nat} (h : lkT aSl t = some x) : tSl Tryd.prog t = some x := tabAll (f := tSl Tryd.prog) aSl_ok h
theorem ta {t : Nat} {x : Nat × Nat × Nat} (h : lkT aAr t = some x) : tAr Tryd.prog t = some x := tabAll (f := tAr Tryd.prog) aAr_ok h
theorem tf {t i : Nat} {x : Nat × Bool × Nat} (hi : Nat.blt i 64 = true) (h : lkT aFd (t * 64 + i) = some x) : tFd Tryd.prog t i = some x := by
  have hi' : i < 64 := by simpa [Nat.blt_eq] using hi
  have := tabAll (f := fun k => tFd Tryd.prog (k / 64) (k % 64)) aFd_ok h
  have this' : tFd Tryd.prog ((t * 64 + i) / 64) ((t * 64 + i) % 64) = some x := this
  rw [show (t * 64 + i) / 64 = t from by omega, show (t * 64 + i) % 64 = i from by omega] at this'
  exact this'
theorem ti {t : Nat} {x : IntKind} (h : lkT aIt t = some x) : tInt Tryd.prog t = some x := tabAll (f := tInt Tryd.prog) aIt_ok h
theorem tb4 : Tryd.prog.underlying 4 = some .bool := by kernel_rfl
def aZ : Nat → Option Value
  | 1 => some (.nilFunc)
  | 2 => some (.int .i64 0)
  | 3 => some (.int .i64 0)
  | 4 => some (.bool false)
  | 5 => some (.int .u8 0)
  | 9 => some (.string ⟨#[]⟩)
  | 12 => some (.int .u64 0)
  | 13 => some (.agg #[.string ⟨#[]⟩, .int .u64 0])
  | 21 => some (.int .i32 0)
  | 22 => some (.int .u32 0)
  | 23 => some (.int .u16 0)
  | 24 => some (.agg #[.int .u16 0, .int .u16 0])
  | 25 => some (.int .u64 0)
  | 26 => some (.agg #[.int .u8 0, .int .u16 0, .int .u16 0, .int .u32 0, .int .u64 0])
  | 27 => some (.agg #[.int .u8 0, .int .u16 0, .int .u16 0, .int .u32 0, .int .u64 0])
  | 28 => some (.slice none 0 0)
  | 29 => some (.agg #[.int .u8 0, .int .u8 0, .int .u32 0, .slice none 0 0])
  | 30 => some (.agg #[.int .u8 0, .int .u8 0, .int .u32 0, .slice none 0 0])
  | 31 => some (.agg #[.int .u32 0, .int .u16 0, .int .u8 0, .int .u16 0, .int .u16 0, .int .u32 0, .int .u64 0, .int .u32 0, .int .u8 0, .int .u32 0, .int .u8 0, .int .u8 0, .int .u32 0, .slice none 0 0])
  | 32 => some (.agg #[.int .u32 0, .int .u16 0, .int .u8 0, .int .u16 0, .int .u16 0, .int .u32 0, .int .u64 0, .int .u32 0, .int .u8 0, .int .u32 0, .int .u8 0, .int .u8 0, .int .u32 0, .slice none 0 0])
  | 33 => some (.agg #[.int .u8 0, .int .u8 0, .int .u8 0, .int .u8 0, .int .u8 0, .int .u8 0, .int .u8 0, .int .u8 0])
  | 34 => some (.nilFunc)
  | 35 => some (.nilFunc)
  | 36 => some (.agg (List.replicate 256 (.int .u8 0)).toArray)
  | 37 => some (.agg (List.replicate 256 (.int .u8 0)).toArray)
  | 38 => some (.int .i64 0)
  | 40 => some (.nilFunc)
  | 41 => some (.nilFunc)
  | 43 => some (.nilFunc)
  | 44 => some (.nilFunc)
  | 45 => some (.nilFunc)
  | 46 => some (.nilFunc)
  | 47 => some (.slice none 0 0)
  | 48 => some (.nilFunc)
  | 49 => some (.agg #[.bool false, .bool false, .bool false, .bool false])
  | 50 => some (.nilFunc)
  | 51 => some (.nilFunc)
  | 52 => some (.nilFunc)
  | 53 => some (.nilFunc)
  | 54 => some (.nilFunc)
  | 55 => some (.nilFunc)
  | 56 => some (.slice none 0 0)
  | 57 => some (.slice none 0 0)
  | 58 => some (.slice none 0 0)
  | 59 => some (.agg #[.slice none 0 0, .slice none 0 0, .slice none 0 0, .bool false])
  | 60 => some (.agg #[.slice none 0 0, .slice none 0 0, .slice none 0 0, .bool false])
  | 61 => some (.agg #[.slice none 0 0, .slice none 0 0, .slice none 0 0, .bool false, .slice none 0 0, .slice none 0 0, .slice none 0 0, .bool false])
  | 62 => some (.agg #[.slice none 0 0, .slice none 0 0, .slice none 0 0, .bool false, .slice none 0 0, .slice none 0 0, .slice none 0 0, .bool false, .int .i64 0, .bool false])
  | 63 => some (.agg #[.slice none 0 0, .slice none 0 0, .slice none 0 0, .bool false, .slice none 0 0, .slice none 0 0, .slice none 0 0, .bool false, .int .i64 0, .bool false])
  | 64 => some (.nilFunc)
  | 66 => some (.nilFunc)
  | 67 => some (.nilFunc)
  | 68 => some (.nilFunc)
  | 70 => some (.nilFunc)
  | 71 => some (.nilFunc)
  | 72 => some (.agg #[.int .u32 0, .int .u16 0, .int .u8 0, .int .u16 0, .int .u16 0, .int .u32 0, .int .u64 0, .int .u32 0, .int .u8 0, .int .u32 0, .int .u8 0, .int .u8 0, .int .u32 0, .slice none 0 0, .int .u32 0, .int .u16 0, .int .u8 0, .int .u16 0, .int .u16 0, .int .u32 0, .int .u64 0, .int .u32 0, .int .u8 0, .int .u32 0, .int .u8 0, .int .u8 0, .int .u32 0, .slice none 0 0, .int .u32 0, .int .u16 0, .int .u8 0, .int .u16 0, .int .u16 0, .int .u32 0, .int .u64 0, .int .u32 0, .int .u8 0, .int .u32 0, .int .u8 0, .int .u8 0, .int .u32 0, .slice none 0 0, .int .u32 0, .int .u16 0, .int .u8 0, .int .u16 0, .int .u16 0, .int .u32 0, .int .u64 0, .int .u32 0, .int .u8 0, .int .u32 0, .int .u8 0, .int .u8 0, .int .u32 0, .slice none 0 0])
  | 74 => some (.nilFunc)
  | 75 => some (.nilFunc)
  | 77 => some (.nilFunc)
  | 78 => some (.agg #[.int .u32 0, .int .u32 0, .int .u32 0, .int .u32 0])
  | 79 => some (.nilFunc)
  | 80 => some (.nilFunc)
  | 81 => some (.nilFunc)
  | 82 => some (.nilFunc)
  | 83 => some (.nilFunc)
  | 84 => some (.nilFunc)
  | 85 => some (.nilFunc)
  | 86 => some (.nilFunc)
  | 87 => some (.nilFunc)
  | 88 => some (.nilFunc)
  | 89 => some (.nilFunc)
  | 90 => some (.nilFunc)
  | 91 => some (.nilFunc)
  | 92 => some (.nilFunc)
  | 94 => some (.nilFunc)
  | 95 => some (.agg #[.int .u64 0, .int .u64 0, .int .u64 0, .int .u64 0, .int .u64 0, .int .u64 0, .int .u64 0, .int .u64 0, .int .u64 0])
  | 97 => some (.nilFunc)
  | 99 => some (.nilFunc)
  | 100 => some (.nilFunc)
  | 101 => some (.nilFunc)
  | 102 => some (.nilFunc)
  | 104 => some (.nilFunc)
  | 105 => some (.nilFunc)
  | 106 => some (.nilFunc)
  | 107 => some (.agg #[.int .u32 0, .int .u16 0, .int .u8 0, .int .u16 0, .int .u16 0, .int .u32 0, .int .u64 0, .int .u32 0, .int .u8 0, .int .u32 0, .int .u8 0, .int .u8 0, .int .u32 0, .slice none 0 0, .int .u32 0, .int .u16 0, .int .u8 0, .int .u16 0, .int .u16 0, .int .u32 0, .int .u64 0, .int .u32 0, .int .u8 0, .int .u32 0, .int .u8 0, .int .u8 0, .int .u32 0, .slice none 0 0])
  | 108 => some (.nilFunc)
  | 109 => some (.nilFunc)
  | 110 => some (.nilFunc)
  | 111 => some (.agg #[.int .i64 0, .int .i64 0])
  | 112 => some (.agg #[.int .i64 0, .int .i64 0])
  | 113 => some (.nilFunc)
  | 114 => some (.nilFunc)
  | 115 => some (.nilFunc)
  | 116 => some (.nilFunc)
  | 117 => some (.nilFunc)
  | 118 => some (.nilFunc)
  | 119 => some (.agg #[.int .i64 0, .int .i64 0, .int .i64 0, .int .i64 0, .int .i64 0, .int .i64 0, .int .i64 0, .int .i64 0, .int .i64 0])
  | 120 => some (.nilFunc)
  | 121 => some (.agg #[.int .u64 0, .int .u64 0, .int .u64 0, .int .u64 0, .int .u64 0])
  | 122 => some (.agg #[.int .i64 0, .int .i64 0, .int .i64 0, .int .i64 0, .int .i64 0])
  | 123 => some (.nilFunc)
  | 124 => some (.nilFunc)
  | 125 => some (.nilFunc)
  | 126 => some (.nilFunc)
  | 127 => some (.nilFunc)
  | 128 => some (.nilFunc)
  | 129 => some (.slice none 0 0)
  | 130 => some (.nilFunc)
  | 131 => some (.nilFunc)
  | 132 => some (.nilFunc)
  | 133 => some (.nilFunc)
  | 134 => some (.nilFunc)
  | 135 => some (.nilFunc)
  | 136 => some (.nilFunc)
  | 137 => some (.nilFunc)
  | 138 => some (.nilFunc)
  | 139 => some (.int .u64 0)
  | 140 => some (.nilFunc)
  | 141 => some (.nilFunc)
  | 142 => some (.nilFunc)
  | 143 => some (.nilFunc)
  | 144 => some (.nilFunc)
  | 145 => some (.nilFunc)
  | 148 => some (.nilFunc)
  | 149 => some (.nilFunc)
  | 150 => some (.nilFunc)
  | 151 => some (.nilFunc)
  | 152 => some (.nilFunc)
  | 153 => some (.nilFunc)
  | 154 => some (.nilFunc)
  | 155 => some (.nilFunc)
  | 156 => some (.nilFunc)
  | 157 => some (.nilFunc)
  | 158 => some (.nilFunc)
  | 160 => some (.nilFunc)
  | 161 => some (.nilFunc)
  | 162 => some (.nilFunc)
  | 163 => some (.nilFunc)
  | 164 => some (.nilFunc)
  | 165 => some (.nilFunc)
  | 166 => some (.nilFunc)
  | 167 => some (.nilFunc)
  | 168 => some (.nilFunc)
  | 169 => some (.nilFunc)
  | 170 => some (.nilFunc)
  | 171 => some (.nilFunc)
  | 172 => some (.nilFunc)
  | 173 => some (.nilFunc)
  | 174 => some (.nilFunc)
  | 175 => some (.nilFunc)
  | 181 => some (.nilFunc)
  | 185 => some (.pointer none)
  | _ => none
theorem z1 : tZ Tryd.prog 1 = some (.nilFunc) := by kernel_rfl
theorem z2 : tZ Tryd.prog 2 = some (.int .i64 0) := by kernel_rfl
theorem z3 : tZ Tryd.prog 3 = some (.int .i64 0) := by kernel_rfl
theorem z4 : tZ Tryd.prog 4 = some (.bool false) := by kernel_rfl
theorem z5 : tZ Tryd.prog 5 = some (.int .u8 0) := by kernel_rfl
theorem z9 : tZ Tryd.prog 9 = some (.string ⟨#[]⟩) := by kernel_rfl
theorem z12 : tZ Tryd.prog 12 = some (.int .u64 0) := by kernel_rfl
theorem z13 : tZ Tryd.prog 13 = some (.agg #[.string ⟨#[]⟩, .int .u64 0]) := by kernel_rfl
theorem z21 : tZ Tryd.prog 21 = some (.int .i32 0) := by kernel_rfl
theorem z22 : tZ Tryd.prog 22 = some (.int .u32 0) := by kernel_rfl
theorem z23 : tZ Tryd.prog 23 = some (.int .u16 0) := by kernel_rfl
theorem z24 : tZ Tryd.prog 24 = some (.agg #[.int .u16 0, .int .u16 0]) := by kernel_rfl
theorem z25 : tZ Tryd.prog 25 = some (.int .u64 0) := by kernel_rfl
theorem z26 : tZ Tryd.prog 26 = some (.agg #[.int .u8 0, .int .u16 0, .int .u16 0, .int .u32 0, .int .u64 0]) := by kernel_rfl
theorem z27 : tZ Tryd.prog 27 = some (.agg #[.int .u8 0, .int .u16 0, .int .u16 0, .int .u32 0, .int .u64 0]) := by kernel_rfl
theorem z28 : tZ Tryd.prog 28 = some (.slice none 0 0) := by kernel_rfl
theorem z29 : tZ Tryd.prog 29 = some (.agg #[.int .u8 0, .int .u8 0, .int .u32 0, .slice none 0 0]) := by kernel_rfl
theorem z30 : tZ Tryd.prog 30 = some (.agg #[.int .u8 0, .int .u8 0, .int .u32 0, .slice none 0 0]) := by kernel_rfl
theorem z31 : tZ Tryd.prog 31 = some (.agg #[.int .u32 0, .int .u16 0, .int .u8 0, .int .u16 0, .int .u16 0, .int .u32 0, .int .u64 0, .int .u32 0, .int .u8 0, .int .u32 0, .int .u8 0, .int .u8 0, .int .u32 0, .slice none 0 0]) := by kernel_rfl
theorem z32 : tZ Tryd.prog 32 = some (.agg #[.int .u32 0, .int .u16 0, .int .u8 0, .int .u16 0, .int .u16 0, .int .u32 0, .int .u64 0, .int .u32 0, .int .u8 0, .int .u32 0, .int .u8 0, .int .u8 0, .int .u32 0, .slice none 0 0]) := by kernel_rfl
theorem z33 : tZ Tryd.prog 33 = some (.agg #[.int .u8 0, .int .u8 0, .int .u8 0, .int .u8 0, .int .u8 0, .int .u8 0, .int .u8 0, .int .u8 0]) := by kernel_rfl
theorem z34 : tZ Tryd.prog 34 = some (.nilFunc) := by kernel_rfl
theorem z35 : tZ Tryd.prog 35 = some (.nilFunc) := by kernel_rfl
theorem z36 : tZ Tryd.prog 36 = some (.agg (List.replicate 256 (.int .u8 0)).toArray) := by kernel_rfl
theorem z37 : tZ Tryd.prog 37 = some (.agg (List.replicate 256 (.int .u8 0)).toArray) := by kernel_rfl
theorem z38 : tZ Tryd.prog 38 = some (.int .i64 0) := by kernel_rfl
theorem z40 : tZ Tryd.prog 40 = some (.nilFunc) := by kernel_rfl
theorem z41 : tZ Tryd.prog 41 = some (.nilFunc) := by kernel_rfl
theorem z43 : tZ Tryd.prog 43 = some (.nilFunc) := by kernel_rfl
theorem z44 : tZ Tryd.prog 44 = some (.nilFunc) := by kernel_rfl
theorem z45 : tZ Tryd.prog 45 = some (.nilFunc) := by kernel_rfl
theorem z46 : tZ Tryd.prog 46 = some (.nilFunc) := by kernel_rfl
theorem z47 : tZ Tryd.prog 47 = some (.slice none 0 0) := by kernel_rfl
theorem z48 : tZ Tryd.prog 48 = some (.nilFunc) := by kernel_rfl
theorem z49 : tZ Tryd.prog 49 = some (.agg #[.bool false, .bool false, .bool false, .bool false]) := by kernel_rfl
theorem z50 : tZ Tryd.prog 50 = some (.nilFunc) := by kernel_rfl
theorem z51 : tZ Tryd.prog 51 = some (.nilFunc) := by kernel_rfl
theorem z52 : tZ Tryd.prog 52 = some (.nilFunc) := by kernel_rfl
theorem z53 : tZ Tryd.prog 53 = some (.nilFunc) := by kernel_rfl
theorem z54 : tZ Tryd.prog 54 = some (.nilFunc) := by kernel_rfl
theorem z55 : tZ Tryd.prog 55 = some (.nilFunc) := by kernel_rfl
theorem z56 : tZ Tryd.prog 56 = some (.slice none 0 0) := by kernel_rfl
theorem z57 : tZ Tryd.prog 57 = some (.slice none 0 0) := by kernel_rfl
theorem z58 : tZ Tryd.prog 58 = some (.slice none 0 0) := by kernel_rfl
theorem z59 : tZ Tryd.prog 59 = some (.agg #[.slice none 0 0, .slice none 0 0, .slice none 0 0, .bool false]) := by kernel_rfl
theorem z60 : tZ Tryd.prog 60 = some (.agg #[.slice none 0 0, .slice none 0 0, .slice none 0 0, .bool false]) := by kernel_rfl
theorem z61 : tZ Tryd.prog 61 = some (.agg #[.slice none 0 0, .slice none 0 0, .slice none 0 0, .bool false, .slice none 0 0, .slice none 0 0, .slice none 0 0, .bool false]) := by kernel_rfl
theorem z62 : tZ Tryd.prog 62 = some (.agg #[.slice none 0 0, .slice none 0 0, .slice none 0 0, .bool false, .slice none 0 0, .slice none 0 0, .slice none 0 0, .bool false, .int .i64 0, .bool false]) := by kernel_rfl
theorem z63 : tZ Tryd.prog 63 = some (.agg #[.slice none 0 0, .slice none 0 0, .slice none 0 0, .bool false, .slice none 0 0, .slice none 0 0, .slice none 0 0, .bool false, .int .i64 0, .bool false]) := by kernel_rfl
theorem z64 : tZ Tryd.prog 64 = some (.nilFunc) := by kernel_rfl
theorem z66 : tZ Tryd.prog 66 = some (.nilFunc) := by kernel_rfl
theorem z67 : tZ Tryd.prog 67 = some (.nilFunc) := by kernel_rfl
theorem z68 : tZ Tryd.prog 68 = some (.nilFunc) := by kernel_rfl
theorem z70 : tZ Tryd.prog 70 = some (.nilFunc) := by kernel_rfl
theorem z71 : tZ Tryd.prog 71 = some (.nilFunc) := by kernel_rfl
theorem z72 : tZ Tryd.prog 72 = some (.agg #[.int .u32 0, .int .u16 0, .int .u8 0, .int .u16 0, .int .u16 0, .int .u32 0, .int .u64 0, .int .u32 0, .int .u8 0, .int .u32 0, .int .u8 0, .int .u8 0, .int .u32 0, .slice none 0 0, .int .u32 0, .int .u16 0, .int .u8 0, .int .u16 0, .int .u16 0, .int .u32 0, .int .u64 0, .int .u32 0, .int .u8 0, .int .u32 0, .int .u8 0, .int .u8 0, .int .u32 0, .slice none 0 0, .int .u32 0, .int .u16 0, .int .u8 0, .int .u16 0, .int .u16 0, .int .u32 0, .int .u64 0, .int .u32 0, .int .u8 0, .int .u32 0, .int .u8 0, .int .u8 0, .int .u32 0, .slice none 0 0, .int .u32 0, .int .u16 0, .int .u8 0, .int .u16 0, .int .u16 0, .int .u32 0, .int .u64 0, .int .u32 0, .int .u8 0, .int .u32 0, .int .u8 0, .int .u8 0, .int .u32 0, .slice none 0 0]) := by kernel_rfl
theorem z74 : tZ Tryd.prog 74 = some (.nilFunc) := by kernel_rfl
theorem z75 : tZ Tryd.prog 75 = some (.nilFunc) := by kernel_rfl
theorem z77 : tZ Tryd.prog 77 = some (.nilFunc) := by kernel_rfl
theorem z78 : tZ Tryd.prog 78 = some (.agg #[.int .u32 0, .int .u32 0, .int .u32 0, .int .u32 0]) := by kernel_rfl
theorem z79 : tZ Tryd.prog 79 = some (.nilFunc) := by kernel_rfl
theorem z80 : tZ Tryd.prog 80 = some (.nilFunc) := by kernel_rfl
theorem z81 : tZ Tryd.prog 81 = some (.nilFunc) := by kernel_rfl
theorem z82 : tZ Tryd.prog 82 = some (.nilFunc) := by kernel_rfl
theorem z83 : tZ Tryd.prog 83 = some (.nilFunc) := by kernel_rfl
theorem z84 : tZ Tryd.prog 84 = some (.nilFunc) := by kernel_rfl
theorem z85 : tZ Tryd.prog 85 = some (.nilFunc) := by kernel_rfl
theorem z86 : tZ Tryd.prog 86 = some (.nilFunc) := by kernel_rfl
theorem z87 : tZ Tryd.prog 87 = some (.nilFunc) := by kernel_rfl
theorem z88 : tZ Tryd.prog 88 = some (.nilFunc) := by kernel_rfl
theorem z89 : tZ Tryd.prog 89 = some (.nilFunc) := by kernel_rfl
theorem z90 : tZ Tryd.prog 90 = some (.nilFunc) := by kernel_rfl
theorem z91 : tZ Tryd.prog 91 = some (.nilFunc) := by kernel_rfl
theorem z92 : tZ Tryd.prog 92 = some (.nilFunc) := by kernel_rfl
theorem z94 : tZ Tryd.prog 94 = some (.nilFunc) := by kernel_rfl
theorem z95 : tZ Tryd.prog 95 = some (.agg #[.int .u64 0, .int .u64 0, .int .u64 0, .int .u64 0, .int .u64 0, .int .u64 0, .int .u64 0, .int .u64 0, .int .u64 0]) := by kernel_rfl
theorem z97 : tZ Tryd.prog 97 = some (.nilFunc) := by kernel_rfl
theorem z99 : tZ Tryd.prog 99 = some (.nilFunc) := by kernel_rfl
theorem z100 : tZ Tryd.prog 100 = some (.nilFunc) := by kernel_rfl
theorem z101 : tZ Tryd.prog 101 = some (.nilFunc) := by kernel_rfl
theorem z102 : tZ Tryd.prog 102 = some (.nilFunc) := by kernel_rfl
theorem z104 : tZ Tryd.prog 104 = some (.nilFunc) := by kernel_rfl
theorem z105 : tZ Tryd.prog 105 = some (.nilFunc) := by kernel_rfl
theorem z106 : tZ Tryd.prog 106 = some (.nilFunc) := by kernel_rfl
theorem z107 : tZ Tryd.prog 107 = some (.agg #[.int .u32 0, .int .u16 0, .int .u8 0, .int .u16 0, .int .u16 0, .int .u32 0, .int .u64 0, .int .u32 0, .int .u8 0, .int .u32 0, .int .u8 0, .int .u8 0, .int .u32 0, .slice none 0 0, .int .u32 0, .int .u16 0, .int .u8 0, .int .u16 0, .int .u16 0, .int .u32 0, .int .u64 0, .int .u32 0, .int .u8 0, .int .u32 0, .int .u8 0, .int .u8 0, .int .u32 0, .slice none 0 0]) := by kernel_rfl
theorem z108 : tZ Tryd.prog 108 = some (.nilFunc) := by kernel_rfl
theorem z109 : tZ Tryd.prog 109 = some (.nilFunc) := by kernel_rfl
theorem z110 : tZ Tryd.prog 110 = some (.nilFunc) := by kernel_rfl
theorem z111 : tZ Tryd.prog 111 = some (.agg #[.int .i64 0, .int .i64 0]) := by kernel_rfl
theorem z112 : tZ Tryd.prog 112 = some (.agg #[.int .i64 0, .int .i64 0]) := by kernel_rfl
theorem z113 : tZ Tryd.prog 113 = some (.nilFunc) := by kernel_rfl
theorem z114 : tZ Tryd.prog 114 = some (.nilFunc) := by kernel_rfl
theorem z115 : tZ Tryd.prog 115 = some (.nilFunc) := by kernel_rfl
theorem z116 : tZ Tryd.prog 116 = some (.nilFunc) := by kernel_rfl
theorem z117 : tZ Tryd.prog 117 = some (.nilFunc) := by kernel_rfl
theorem z118 : tZ Tryd.prog 118 = some (.nilFunc) := by kernel_rfl
theorem z119 : tZ Tryd.prog 119 = some (.agg #[.int .i64 0, .int .i64 0, .int .i64 0, .int .i64 0, .int .i64 0, .int .i64 0, .int .i64 0, .int .i64 0, .int .i64 0]) := by kernel_rfl
theorem z120 : tZ Tryd.prog 120 = some (.nilFunc) := by kernel_rfl
theorem z121 : tZ Tryd.prog 121 = some (.agg #[.int .u64 0, .int .u64 0, .int .u64 0, .int .u64 0, .int .u64 0]) := by kernel_rfl
theorem z122 : tZ Tryd.prog 122 = some (.agg #[.int .i64 0, .int .i64 0, .int .i64 0, .int .i64 0, .int .i64 0]) := by kernel_rfl
theorem z123 : tZ Tryd.prog 123 = some (.nilFunc) := by kernel_rfl
theorem z124 : tZ Tryd.prog 124 = some (.nilFunc) := by kernel_rfl
theorem z125 : tZ Tryd.prog 125 = some (.nilFunc) := by kernel_rfl
theorem z126 : tZ Tryd.prog 126 = some (.nilFunc) := by kernel_rfl
theorem z127 : tZ Tryd.prog 127 = some (.nilFunc) := by kernel_rfl
theorem z128 : tZ Tryd.prog 128 = some (.nilFunc) := by kernel_rfl
theorem z129 : tZ Tryd.prog 129 = some (.slice none 0 0) := by kernel_rfl
theorem z130 : tZ Tryd.prog 130 = some (.nilFunc) := by kernel_rfl
theorem z131 : tZ Tryd.prog 131 = some (.nilFunc) := by kernel_rfl
theorem z132 : tZ Tryd.prog 132 = some (.nilFunc) := by kernel_rfl
theorem z133 : tZ Tryd.prog 133 = some (.nilFunc) := by kernel_rfl
theorem z134 : tZ Tryd.prog 134 = some (.nilFunc) := by kernel_rfl
theorem z135 : tZ Tryd.prog 135 = some (.nilFunc) := by kernel_rfl
theorem z136 : tZ Tryd.prog 136 = some (.nilFunc) := by kernel_rfl
theorem z137 : tZ Tryd.prog 137 = some (.nilFunc) := by kernel_rfl
theorem z138 : tZ Tryd.prog 138 = some (.nilFunc) := by kernel_rfl
theorem z139 : tZ Tryd.prog 139 = some (.int .u64 0) := by kernel_rfl
theorem z140 : tZ Tryd.prog 140 = some (.nilFunc) := by kernel_rfl
theorem z141 : tZ Tryd.prog 141 = some (.nilFunc) := by kernel_rfl
theorem z142 : tZ Tryd.prog 142 = some (.nilFunc) := by kernel_rfl
theorem z143 : tZ Tryd.prog 143 = some (.nilFunc) := by kernel_rfl
theorem z144 : tZ Tryd.prog 144 = some (.nilFunc) := by kernel_rfl
theorem z145 : tZ Tryd.prog 145 = some (.nilFunc) := by kernel_rfl
theorem z148 : tZ Tryd.prog 148 = some (.nilFunc) := by kernel_rfl
theorem z149 : tZ Tryd.prog 149 = some (.nilFunc) := by kernel_rfl
theorem z150 : tZ Tryd.prog 150 = some (.nilFunc) := by kernel_rfl
theorem z151 : tZ Tryd.prog 151 = some (.nilFunc) := by kernel_rfl
theorem z152 : tZ Tryd.prog 152 = some (.nilFunc) := by kernel_rfl
theorem z153 : tZ Tryd.prog 153 = some (.nilFunc) := by kernel_rfl
theorem z154 : tZ Tryd.prog 154 = some (.nilFunc) := by kernel_rfl
theorem z155 : tZ Tryd.prog 155 = some (.nilFunc) := by kernel_rfl
theorem z156 : tZ Tryd.prog 156 = some (.nilFunc) := by kernel_rfl
theorem z157 : tZ Tryd.prog 157 = some (.nilFunc) := by kernel_rfl
theorem z158 : tZ Tryd.prog 158 = some (.nilFunc) := by kernel_rfl
theorem z160 : tZ Tryd.prog 160 = some (.nilFunc) := by kernel_rfl
theorem z161 : tZ Tryd.prog 161 = some (.nilFunc) := by kernel_rfl
theorem z162 : tZ Tryd.prog 162 = some (.nilFunc) := by kernel_rfl
theorem z163 : tZ Tryd.prog 163 = some (.nilFunc) := by kernel_rfl
theorem z164 : tZ Tryd.prog 164 = some (.nilFunc) := by kernel_rfl
theorem z165 : tZ Tryd.prog 165 = some (.nilFunc) := by kernel_rfl
theorem z166 : tZ Tryd.prog 166 = some (.nilFunc) := by kernel_rfl
theorem z167 : tZ Tryd.prog 167 = some (.nilFunc) := by kernel_rfl
theorem z168 : tZ Tryd.prog 168 = some (.nilFunc) := by kernel_rfl
theorem z169 : tZ Tryd.prog 169 = some (.nilFunc) := by kernel_rfl
theorem z170 : tZ Tryd.prog 170 = some (.nilFunc) := by kernel_rfl
theorem z171 : tZ Tryd.prog 171 = some (.nilFunc) := by kernel_rfl
theorem z172 : tZ Tryd.prog 172 = some (.nilFunc) := by kernel_rfl
theorem z173 : tZ Tryd.prog 173 = some (.nilFunc) := by kernel_rfl
theorem z174 : tZ Tryd.prog 174 = some (.nilFunc) := by kernel_rfl
theorem z175 : tZ Tryd.prog 175 = some (.nilFunc) := by kernel_rfl
theorem z181 : tZ Tryd.prog 181 = some (.nilFunc) := by kernel_rfl
theorem z185 : tZ Tryd.prog 185 = some (.pointer none) := by kernel_rfl
theorem mix : Tryd.prog.follows .mixedOrders = true := by kernel_rfl
end Go.Proofs.YtjahiohlekdhoaaDoor

namespace Go.Proofs.YtjahiohlekdhoaaDoor
open Go
set_option maxHeartbeats 4000000
set_option maxRecDepth 4000
attribute [local irreducible] SW SL SP RA Then FQ IQ LoopQ RQ AQ NX CutQ Exit.noGoto

theorem c_wide (G : Res) (n : Nat) (h1 : 1 ≤ n) (h8 : n ≤ 8) : Ctr Tryd.prog G 89 [vi (n : Int)] [] [] (ret1 (vi (n : Int))) := by
  refine Ctr.intro Tryd.func89 (by kernel_rfl) rfl Tryd.ntmps89 rfl rfl rfl fun w X => ?_
  refine sw_seq ?_
  refine sw_region ?_
  refine r_assign (k := ?_)
  refine sl_nil ?_
  refine sp_then ?_
  refine sw_seq ?_
  refine sw_region ?_
  refine r_move (k := ?_)
  refine r_min (k := ?_)
  refine r_max (k := ?_)
  refine r_assign (k := ?_)
  refine sl_nil ?_
  refine sp_then ?_
  refine sw_ret ?_
  have e1 : (if (8 : Int) < n then 8 else (n : Int)) = n := if_neg (by omega)
  have e2 : (if (n : Int) < 1 then 1 else (n : Int)) = n := if_neg (by omega)
  refine sp_retv rfl rfl (.tmp rfl) rfl rfl ⟨?_, rfl, rfl⟩ (by simp) rfl (by simp)
  rw [e1, e2]

/-- A number's bytes, the lowest one first. -/
def le : Nat → UInt64 → List UInt8
  | 0, _ => []
  | w + 1, n => n.toUInt8 :: le w (n >>> UInt64.ofNat 8)
theorem le_length : ∀ (w : Nat) (n : UInt64), (le w n).length = w
  | 0, _ => rfl
  | w + 1, n => by rw [le, List.length_cons, le_length w]

theorem c_pbytes (G : Res) (n : UInt64) (w : Int) : Ctr Tryd.prog G 84 [v64 n, vi w] [] [] (fun v B' Φ' => ∃ b2 b3, v = .func (.func 108) #[] #[.pointer (some ⟨b3, 0, none⟩), .pointer (some ⟨b2, 0, none⟩)] ∧ B' = [.box b2 [v64 n] 25] ∧ Φ' = [Res.mem (some ⟨b3, 0, none⟩) [vi w]]) := by
  refine Ctr.intro Tryd.func84 (by kernel_rfl) rfl Tryd.ntmps84 rfl rfl rfl fun w X => ?_
  refine sw_seq ?_
  refine sw_region ?_
  refine r_box (k := fun bx => ?_)
  refine r_box (k := fun bx => ?_)
  refine r_assign (k := ?_)
  refine sl_nil ?_
  refine sp_then ?_
  refine sw_seq ?_
  refine sw_region ?_
  refine r_clos (k := ?_)
  refine r_assign (k := ?_)
  refine sl_nil ?_
  refine sp_then ?_
  refine sw_ret ?_
  refine sp_freeze ?_
  refine sp_retv rfl rfl (.tmp rfl) rfl rfl ⟨_, _, rfl, rfl, rfl⟩ (List.Sublist.refl _) rfl (by simp)

theorem i_pbytes (G : Res) (b2 b3 : Nat) (n : UInt64) (w : Nat) (h1 : 1 ≤ w) (h8 : w ≤ 8) : ICtr Tryd.prog G 108 [.pointer (some ⟨b3, 0, none⟩), .pointer (some ⟨b2, 0, none⟩)] [.box b2 [v64 n] 25] [Res.mem (some ⟨b3, 0, none⟩) [vi (w : Int)]] bElt (le w n) := by
  refine ICtr.intro Tryd.func108 (by kernel_rfl) rfl Tryd.ntmps108 rfl rfl (fun _ => rfl) fun σ J Y go A l s0 w' X M hgo hA hY => ?_
  refine sw_seq ?_
  refine sw_region ?_
  refine r_load_fr1 (k := ?_)
  refine r_call1 (c_wide G w h1 h8) (by exact rfl) (by exact rfl) (by exact rfl) (by simp) (by exact rfl) ?_
  refine r_move (k := ?_)
  refine sl_nil ?_
  refine sp_then ?_
  refine sw_block ?_
  refine sw_loop (ι := { p : Nat × UInt64 × σ // p.1 ≤ w ∧ At Y go A s0 (le w n) p.2.2 (le (w - p.1) p.2.1) })
    (fun p => [(0, yv l), (2, .pointer (some ⟨b2, 0, none⟩)), (5, vi (w : Int)), (6, vi (p.1.1 : Int))]) (fun p => [.box b2 [v64 p.1.2.1] 25]) (fun _ => []) (fun p => [J p.1.2.2]) (fun p => w - p.1.1) ⟨(0, n, s0), by simp, .start hgo hA⟩ ?_ fun i => ?_
  · exact Ent.mk' (by repeat' (first | trivial | exact rfl | apply And.intro)) (by repeat' (first | trivial | exact .head _ | apply And.intro | apply List.Mem.tail))
  obtain ⟨⟨i, m, s⟩, hi, hr⟩ := i
  dsimp only at hi hr ⊢
  refine sw_seq ?_
  refine sw_region ?_
  refine r_lss (k := ?_)
  refine sl_nil ?_
  refine sp_then ?_
  refine sw_seq ?_
  refine sw_cond rfl (fun h => ?_) (fun h => ?_)
  · have h := of_decide_eq_true h
    have e : w - i = (w - (i + 1)) + 1 := by omega
    rw [e, le] at hr
    refine sw_skip ?_
    refine sp_then ?_
    refine sw_seq ?_
    refine sw_block ?_
    refine sw_seq ?_
    refine sw_seq ?_
    refine sw_region ?_
    refine r_move (k := ?_)
    refine r_load_one (k := ?_)
    refine r_cv_64_8 (k := ?_)
    refine r_yield hY hr.go' hr.give rfl rfl (el := m.toUInt8) (fun _ _ _ => rfl) rfl ?_
    refine r_not (k := ?_)
    refine sl_nil ?_
    refine sp_then ?_
    cases hg : go (Y s m.toUInt8)
    · refine swd_t (h := ?_)
      refine sw_ret ?_
      refine sp_then_ret ?_
      refine sp_block_ret ?_
      refine sp_then_ret ?_
      refine sp_loop_ret ?_
      refine sp_block_ret ?_
      refine sp_iret rfl rfl rfl ⟨hr.stop hg, rfl, rfl⟩ (by simp) rfl (by simp) rfl
    · refine swd_f (h := ?_)
      refine sw_skip ?_
      refine sp_then ?_
      refine sw_region ?_
      refine r_load_one (k := ?_)
      refine r_shr64 (k := ?_)
      refine r_store_all (k := ?_)
      refine sl_nil ?_
      refine sp_block ?_
      refine sp_then ?_
      refine sw_region ?_
      refine r_add64 (k := ?_)
      refine r_move (k := ?_)
      refine sl_nil ?_
      refine sp_loop (ι := { p : Nat × UInt64 × σ // p.1 ≤ w ∧ At Y go A s0 (le w n) p.2.2 (le (w - p.1) p.2.1) }) ⟨(i + 1, m >>> UInt64.ofNat 8, Y s m.toUInt8), by dsimp only; omega, hr.next hg⟩ ?_ ?_
      · dsimp only; omega
      · exact Ent.mk' (by repeat' (first | trivial | exact rfl | apply And.intro)) (by repeat' (first | trivial | exact .head _ | apply And.intro | apply List.Mem.tail))
  · have h := of_decide_eq_false h
    obtain rfl : i = w := by omega
    rw [Nat.sub_self] at hr
    refine sw_exit ?_
    refine sp_then_exit ?_
    refine sp_loop_exit ?_
    refine sp_block_exit ?_
    refine sp_inorm rfl rfl rfl ⟨hr.done, rfl, rfl⟩ (by simp) rfl (by simp) rfl

/-! ### slices -/
theorem c_clone (G : Res) (s : BS) (hl : s.xs.length ≤ 140737488355328) : Ctr Tryd.prog G 83 [s.v] [] [s.res] (retR 5 s.xs) := by
  refine Ctr.intro Tryd.func83 (by kernel_rfl) rfl Tryd.ntmps83 rfl rfl rfl fun w X => ?_
  obtain ⟨ba, cap, xs⟩ := s
  refine sw_seq ?_
  refine sw_region ?_
  refine r_assign (k := ?_)
  refine sl_nil ?_
  refine sp_then ?_
  refine sw_seq ?_
  refine sw_seq ?_
  refine sw_region ?_
  refine r_move (k := ?_)
  refine r_nil_eq (k := ?_)
  refine sl_nil ?_
  refine sp_then ?_
  cases ba with
  | none =>
    refine swd_t (h := ?_)
    refine sw_seq ?_
    refine sw_region ?_
    refine r_assign (k := ?_)
    refine sl_nil ?_
    refine sp_then ?_
    refine sw_ret ?_
    refine sp_then_ret ?_
    refine sp_nowhere (cs := bv xs) (by iterate 24 (first | exact .head _ | apply List.Mem.tail | skip)) fun h => ?_
    obtain rfl := bv_nil h
    refine sp_nil 5 1 ?_
    refine sp_retv rfl rfl (.tmp rfl) rfl rfl ⟨rfl, rfl, rfl, rfl⟩ (List.Sublist.refl _) rfl (by simp)
  | some a =>
    refine swd_f (h := ?_)
    refine sw_skip ?_
    refine sp_then ?_
    refine sw_seq ?_
    refine sw_region ?_
    refine r_litB (xs := []) (bs := []) (by exact tl rfl) (by exact z5) (by exact rfl) (by exact rfl) (by exact rfl) (by exact rfl) (by exact rfl) fun v h1 h2 => ?_
    refine r_move (k := ?_)
    refine r_appendB (xs := []) (s := ⟨some a, cap, xs⟩) (by exact tl rfl) (by exact z5) (by exact rfl) (by exact rfl) (by iterate 24 (first | exact .head _ | apply List.Mem.tail | skip)) (by simpa using hl) (by exact rfl) fun v' h1 h2 => ?_
    refine r_assign (k := ?_)
    refine sl_nil ?_
    refine sp_then ?_
    refine sw_ret ?_
    refine sp_retv rfl rfl (.tmp rfl) rfl rfl ⟨h1, h2, rfl, rfl⟩ (List.Sublist.refl _) rfl (by simp)

theorem adm_app {go : List UInt8 → Bool} : ∀ (L : List UInt8) (s : List UInt8) (n : Nat), s.length + L.length ≤ n → Adm (fun (s : List UInt8) b => s ++ [b]) go (fun s _ => s.length + 1 ≤ n) s L
  | [], _, _, _ => trivial
  | x :: l, s, n, h => ⟨by simp at h; omega, fun _ => adm_app l _ n (by simp at h ⊢; omega)⟩
theorem foldl_app : ∀ (L s : List UInt8), L.foldl (fun (s : List UInt8) b => s ++ [b]) s = s ++ L
  | [], s => by simp
  | x :: l, s => by rw [List.foldl_cons, foldl_app l]; simp

theorem c_appendSeq (G : Res) (v : Value) (hv : v.cells = #[v]) (hv1 : v.oneCell' = true) (xs L : List UInt8) (hl : xs.length + L.length ≤ 140737488355328) {gf : FuncId} {caps : List Value} {Bp : List Own} {Φp : List Res} (hc : ICtr Tryd.prog G gf caps Bp Φp bElt L) :
    Ctr Tryd.prog G 82 [v, .func (.func gf) #[] caps.toArray] (.row v xs.length (bv xs) 5 1 :: Bp) Φp (retB (xs ++ L)) := by
  refine Ctr.intro Tryd.func82 (by kernel_rfl) rfl Tryd.ntmps82 (by rw [marks_cons, hc.nomark]; rfl) rfl rfl fun w X => ?_
  refine sw_seq ?_
  refine sw_region ?_
  refine r_box (k := fun bx => ?_)
  refine r_assign (k := ?_)
  refine sl_nil ?_
  refine sp_then ?_
  refine sw_seq ?_
  refine sw_seq ?_
  refine sw_region ?_
  refine r_move (k := ?_)
  refine sl_nil ?_
  refine sp_then ?_
  refine sw_block ?_
  refine w_perm (B' := Bp ++ [.row v xs.length (bv xs) 5 1, .box bx [v] 28]) ?_ ?_ ?_
  · exact (List.perm_append_comm).trans (.swap _ _ _)
  · refine sw_rangeA (ι := { v : Value // v.cells = #[v] ∧ v.oneCell' = true }) hc (fun s i => [.row i.1 s.length (bv s) 5 1, .box bx [i.1] 28]) (fun _ _ => []) (fun s b => s ++ [b]) (fun s _ => s.length + 1 ≤ xs.length + L.length) xs ⟨v, hv, hv1⟩ rfl rfl rfl (adm_app L xs _ (by omega)) (by simp) (by simp) (fun _ _ => rfl) rfl (fun x vs V w h => by rw [show vs = [v8 x] from h]; rfl) ?_ ?_
    · rintro l mk rec w X U K s ⟨i, hi1, hi2⟩ x vs hrec hlen ht
      refine w_pure ?_
      rintro rfl
      refine sw_region ?_
      refine r_assign (k := ?_)
      refine sl_nil ?_
      refine sp_asgR hrec rfl ?_
      dsimp only [pull, push, two, List.drop, List.take, List.cons_append, List.nil_append]
      refine sw_block ?_
      refine sw_region ?_
      refine r_load_one (k := ?_)
      refine r_move (k := ?_)
      refine r_litB (xs := [.tmp 9]) (bs := [x]) (by exact tl rfl) (by exact z5) (by exact rfl) (by exact rfl) (by exact rfl) (by exact rfl) (by exact rfl) fun v h1 h2 => ?_
      refine o_rowB fun sx hsx hx e => ?_
      subst e
      refine o_pull 2 rfl ?_
      dsimp only [pull, push, two, List.drop, List.take, List.cons_append, List.nil_append]
      refine r_appendB (xs := s) (s := sx) (by exact tl rfl) (by exact z5) (by exact rfl) (by exact rfl) (by iterate 24 (first | exact .head _ | apply List.Mem.tail | skip)) ?_ (by exact rfl) fun v' h1 h2 => ?_
      · rw [hx]; simp; omega
      rw [hx]
      refine o_push 2 rfl ?_
      dsimp only [pull, push, two, List.drop, List.take, List.cons_append, List.nil_append]
      refine r_store1 (k := ?_)
      refine sl_nil ?_
      refine sp_block ?_
      refine sp_round (ι := { v : Value // v.cells = #[v] ∧ v.oneCell' = true }) (i' := ⟨v', h1, h2⟩) ht hrec ?_ ?_ ?_
      · rfl
      · exact List.Sublist.refl _
      · simp
    · rintro ⟨i, hi1, hi2⟩ mk
      rw [foldl_app]
      refine sp_block ?_
      refine sp_then ?_
      refine sw_seq ?_
      refine sw_region ?_
      refine r_load_one (k := ?_)
      refine r_assign (k := ?_)
      refine sl_nil ?_
      refine sp_then ?_
      refine sw_ret ?_
      refine sp_pull 1 rfl ?_
      dsimp only [pull, push, two, List.drop, List.take, List.cons_append, List.nil_append]
      refine sp_rowB fun r hr hx e => ?_
      subst e
      refine sp_retv rfl rfl (.tmp rfl) rfl rfl ⟨rfl, r, rfl, hr, hx, rfl⟩ (by simp) rfl (by simp)
  · rw [marks_append, hc.nomark]
    show [] ++ [] = marks Bp
    rw [hc.nomark]; rfl

/-- pack.Put -/
theorem c_put (G : Res) (s : BS) (n : UInt64) (w : Nat) (h1 : 1 ≤ w) (h8 : w ≤ 8) (hl : s.xs.length + w ≤ 140737488355328) : Ctr Tryd.prog G 47 [s.v, v64 n, vi (w : Int)] [] [s.res] (retB (s.xs ++ le w n)) := by
  refine Ctr.intro Tryd.func47 (by kernel_rfl) rfl Tryd.ntmps47 rfl rfl rfl fun w' X => ?_
  refine sw_seq ?_
  refine sw_region ?_
  refine r_assign (k := ?_)
  refine sl_nil ?_
  refine sp_then ?_
  refine sw_seq ?_
  refine sw_region ?_
  refine r_move (k := ?_)
  refine r_callR (Bp := []) (Br := []) (c_clone G s (by omega)) (by exact rfl) (by exact rfl) (by exact rfl) (by simp) (by exact rfl) fun v hv1 hv2 => ?_
  refine r_move (k := ?_)
  refine r_move (k := ?_)
  refine r_call (Bp := []) (Br := [.row v s.xs.length (bv s.xs) 5 1]) (c_pbytes G n w) (by exact rfl) (by exact rfl) (by exact rfl) (by simp) (by exact rfl) ?_
  rintro _ _ _ ⟨b2, b3, rfl, rfl, rfl⟩
  dsimp only [List.cons_append, List.nil_append]
  refine o_push 1 rfl ?_
  dsimp only [pull, push, two, List.drop, List.take, List.cons_append, List.nil_append]
  refine r_call (Bp := [.row v s.xs.length (bv s.xs) 5 1, .box b2 [v64 n] 25]) (Br := []) (c_appendSeq G v hv1 hv2 s.xs (le w n) (by rw [le_length]; exact hl) (i_pbytes G b2 b3 n w h1 h8)) (by exact rfl) (by exact rfl) (by exact rfl) (by simp) (by exact rfl) ?_
  rintro _ _ _ ⟨rfl, r, rfl, hr, hx, rfl⟩
  refine r_assign (k := ?_)
  refine sl_nil ?_
  refine sp_then ?_
  refine sw_ret ?_
  refine sp_retv rfl rfl (.tmp rfl) rfl rfl ⟨rfl, r, rfl, hr, hx, rfl⟩ (by simp) rfl (by simp)

/-! ### Take -/
def bElt2 (b : UInt8) (vs : List Value) : Res := Res.pure (∃ i : Int, vs = [vi i, v8 b])

theorem c_backward (G : Res) (s : BS) : Ctr Tryd.prog G 90 [s.v] [] [] (retF fun v Φ' => ∃ b, v = .func (.func 113) #[] #[.pointer (some ⟨b, 0, none⟩)] ∧ Φ' = [Res.mem (some ⟨b, 0, none⟩) [s.v]]) := by
  obtain ⟨ba, cap, xs⟩ := s
  refine Ctr.intro Tryd.func90 (by kernel_rfl) rfl Tryd.ntmps90 rfl rfl rfl fun w X => ?_
  refine sw_seq ?_
  refine sw_region ?_
  refine r_box (k := fun bx => ?_)
  refine r_assign (k := ?_)
  refine sl_nil ?_
  refine sp_then ?_
  refine sw_seq ?_
  refine sw_region ?_
  refine r_clos (k := ?_)
  refine r_assign (k := ?_)
  refine sl_nil ?_
  refine sp_then ?_
  refine sw_ret ?_
  refine sp_freeze ?_
  refine sp_retv rfl rfl (.tmp rfl) rfl rfl ⟨rfl, _, rfl, rfl⟩ (by simp) rfl (by simp)

theorem take_succ_rev (xs : List UInt8) (k : Nat) (h : k < xs.length) : (xs.take (k + 1)).reverse = xs[k] :: (xs.take k).reverse := by
  rw [List.take_succ_eq_append_getElem h]; simp

theorem i_backward (G : Res) (b : Nat) (s : BS) (hok : s.ok) : ICtr Tryd.prog G 113 [.pointer (some ⟨b, 0, none⟩)] [] [Res.mem (some ⟨b, 0, none⟩) [s.v], s.res] bElt2 s.xs.reverse := by
  have hn' : s.xs.length ≤ 9223372036854775807 := Nat.le_trans hok.1 hok.2
  refine ICtr.intro Tryd.func113 (by kernel_rfl) rfl Tryd.ntmps113 rfl rfl (fun _ => rfl) fun σ J Y go A l s0 w' X M hgo hA hY => ?_
  refine sw_seq ?_
  refine sw_region ?_
  refine r_load_fr1 (k := ?_)
  refine r_len (k := ?_)
  refine r_sub64 (k := ?_)
  refine r_assign (k := ?_)
  refine sl_nil ?_
  refine sp_then ?_
  refine sw_block ?_
  refine sw_loop (ι := { p : Nat × σ // p.1 ≤ s.xs.length ∧ At Y go A s0 s.xs.reverse p.2 (s.xs.take p.1).reverse })
    (fun p => [(0, yv l), (1, .pointer (some ⟨b, 0, none⟩)), (3, vi ((p.1.1 : Int) - 1))]) (fun _ => []) (fun _ => [Res.mem (some ⟨b, 0, none⟩) [s.v], s.res]) (fun p => [J p.1.2]) (fun p => p.1.1) ⟨(s.xs.length, s0), Nat.le_refl _, (At.start hgo hA).of (by simp)⟩ ?_ fun i => ?_
  · exact Ent.mk' (by repeat' (first | trivial | exact rfl | apply And.intro)) (by repeat' (first | trivial | exact .head _ | apply And.intro | apply List.Mem.tail))
  obtain ⟨⟨i, st⟩, hi, hr⟩ := i
  dsimp only at hi hr ⊢
  refine sw_seq ?_
  refine sw_seq ?_
  refine sw_region ?_
  refine r_move (k := ?_)
  refine r_geq (k := ?_)
  refine sl_nil ?_
  refine sp_then ?_
  refine sw_cond rfl (fun h => ?_) (fun h => ?_)
  · have h := of_decide_eq_true h
    obtain ⟨k, rfl⟩ : ∃ k, i = k + 1 := ⟨i - 1, by omega⟩
    have hk : k < s.xs.length := by omega
    have ek : ((k + 1 : Nat) : Int) - 1 = (k : Int) := by omega
    have hr := hr.of (take_succ_rev s.xs k hk)
    simp only [ek]
    refine sw_skip ?_
    refine sp_then ?_
    refine sw_seq ?_
    refine sw_block ?_
    refine sw_seq ?_
    refine sw_region ?_
    refine r_move (k := ?_)
    refine r_move (k := ?_)
    refine r_load_fr1 (k := ?_)
    refine r_move (k := ?_)
    refine r_idx (k := ?_)
    refine r_load_mem1 (v := v8 s.xs[k]) (tz rfl) rfl (by iterate 24 (first | exact .head _ | apply List.Mem.tail | skip)) (by rw [Nat.mul_one]; exact bv_get _ _ hk) rfl ?_
    refine r_yield hY hr.go' hr.give rfl rfl (el := s.xs[k]) (fun _ _ _ => ⟨_, rfl⟩) rfl ?_
    refine r_not (k := ?_)
    refine sl_nil ?_
    refine sp_then ?_
    cases hg : go (Y st s.xs[k])
    · refine swd_t (h := ?_)
      refine sw_ret ?_
      refine sp_block_ret ?_
      refine sp_then_ret ?_
      refine sp_loop_ret ?_
      refine sp_block_ret ?_
      refine sp_iret rfl rfl rfl ⟨hr.stop hg, rfl, rfl⟩ (by simp) rfl (by simp) rfl
    · refine swd_f (h := ?_)
      refine sw_skip ?_
      refine sp_block ?_
      refine sp_then ?_
      refine sw_region ?_
      refine r_move (k := ?_)
      refine r_sub64 (k := ?_)
      refine r_assign (k := ?_)
      refine sl_nil ?_
      refine sp_loop (ι := { p : Nat × σ // p.1 ≤ s.xs.length ∧ At Y go A s0 s.xs.reverse p.2 (s.xs.take p.1).reverse }) ⟨(k, Y st s.xs[k]), by dsimp only; omega, hr.next hg⟩ ?_ ?_
      · dsimp only; omega
      · exact Ent.mk' (by repeat' (first | trivial | exact rfl | apply And.intro)) (by repeat' (first | trivial | exact .head _ | apply And.intro | apply List.Mem.tail))
  · have h := of_decide_eq_false h
    obtain rfl : i = 0 := by omega
    refine sw_exit ?_
    refine sp_then_exit ?_
    refine sp_loop_exit ?_
    refine sp_block_exit ?_
    refine sp_inorm rfl rfl rfl ⟨hr.done, rfl, rfl⟩ (by simp) rfl (by simp) rfl

/-- What bytes tell, the lowest one first. -/
def unle (l : List UInt8) : UInt64 := l.reverse.foldl (fun n b => (n <<< UInt64.ofNat 8) ||| b.toUInt64) (UInt64.ofNat 0)

theorem c_take (G : Res) (s : BS) (hok : s.ok) (n : Nat) (h1 : 1 ≤ n) (h8 : n ≤ 8) (hl : n ≤ s.xs.length) : Ctr Tryd.prog G 53 [s.v, vi (n : Int)] [] [s.res] (retF fun v Φ' => ∃ r : BS, v = .tuple #[v64 (unle (s.xs.take n)), r.v, vi 0] ∧ r.ok ∧ r.xs = s.xs.drop n ∧ Φ' = [r.res]) := by
  have hn' : s.xs.length ≤ 9223372036854775807 := Nat.le_trans hok.1 hok.2
  refine Ctr.intro Tryd.func53 (by kernel_rfl) rfl Tryd.ntmps53 rfl rfl rfl fun w X => ?_
  refine sw_seq ?_
  refine sw_region ?_
  refine r_alloc (by exact z25) (by exact rfl) (by exact rfl) fun b => ?_
  refine r_assign (k := ?_)
  refine r_assign (k := ?_)
  refine sl_nil ?_
  refine sp_then ?_
  refine sw_seq ?_
  refine sw_region ?_
  refine r_move (k := ?_)
  refine r_call1 (c_wide G n h1 h8) (by exact rfl) (by exact rfl) (by exact rfl) (by simp) (by exact rfl) ?_
  refine r_assign (k := ?_)
  refine sl_nil ?_
  refine sp_then ?_
  refine sw_seq ?_
  refine sw_seq ?_
  refine sw_region ?_
  refine r_move (k := ?_)
  refine r_len (k := ?_)
  refine r_move (k := ?_)
  refine r_lss (k := ?_)
  refine sl_nil ?_
  refine sp_then ?_
  refine sw_cond rfl (fun h => ?_) (fun h => ?_)
  · have h := of_decide_eq_true h
    exact absurd h (by omega)
  refine sw_skip ?_
  refine sp_then ?_
  refine sw_seq ?_
  refine sw_seq ?_
  refine sw_region ?_
  refine r_move (k := ?_)
  refine r_move (k := ?_)
  refine r_cutB (s := s) (l := 0) (h := n) (by exact tl rfl) (by exact rfl) (by iterate 24 (first | exact .head _ | apply List.Mem.tail | skip)) hok rfl ⟨_, rfl⟩ (by omega) hl (by exact rfl) fun s' hs' hx' => ?_
  refine r_callF (c_backward G s') (by exact rfl) (by exact rfl) (by exact rfl) (by simp) (by exact rfl) ?_
  rintro _ _ ⟨q, rfl, rfl⟩
  refine sl_nil ?_
  refine sp_then ?_
  refine sw_block ?_
  refine sw_rangeA (i_backward G q s' hs') (fun n (_ : Unit) => [.box b [v64 n] 25]) (fun _ _ => [s.res]) (fun n b => (n <<< UInt64.ofNat 8) ||| b.toUInt64) (fun _ _ => True) (UInt64.ofNat 0) () rfl rfl rfl (adm_true _ _) (by simp) (by simp) (fun _ _ => rfl) rfl (fun x vs V w h => by obtain ⟨i, rfl⟩ := h; rfl) ?_ ?_
  · intro l mk rec w X U K st _ x vs hrec _ ht
    refine w_pure ?_
    rintro ⟨i, rfl⟩
    refine sw_region ?_
    refine r_assign (k := ?_)
    refine sl_nil ?_
    refine sp_asgR hrec rfl ?_
    dsimp only [pull, push, two, List.drop, List.take, List.cons_append, List.nil_append]
    refine sw_block ?_
    refine sw_region ?_
    refine r_load_one (k := ?_)
    refine r_shl64 (k := ?_)
    refine r_move (k := ?_)
    refine r_cv_8_64 (k := ?_)
    refine r_or64 (k := ?_)
    refine r_store_all (k := ?_)
    refine sl_nil ?_
    refine sp_block ?_
    refine sp_round (ι := Unit) (i' := ()) ht hrec ?_ ?_ ?_
    · rfl
    · exact List.Sublist.refl _
    · simp
  · intro _ mk
    have e : s'.xs.reverse.foldl (fun n b => (n <<< UInt64.ofNat 8) ||| b.toUInt64) (UInt64.ofNat 0) = unle (s.xs.take n) := by rw [hx']; simp [unle]
    rw [e]
    refine sp_block ?_
    refine sp_then ?_
    refine sw_seq ?_
    refine sw_draw [(none, .box b [v64 (unle (s.xs.take n))] 25)] [s.res] [0, 1, 2, 3, 4, 5, 6] mix (by kernel_rfl) rfl ?_
    refine ra_first 0 [(none, .box b [v64 (unle (s.xs.take n))] 25)] [1, 2, 3, 4, 5, 6] (hq := by first | exact q_load_one | exact q_load_all | exact q_load_fr1 | exact q_load_fr) (k := ?_)
    refine ra_first 1 [] [2, 3, 4, 5, 6] (hq := by exact q_move) (k := ?_)
    refine ra_first 2 [] [3, 4, 5, 6] (hq := by exact q_move) (k := ?_)
    refine ra_first 3 [] [4, 5, 6] (hq := by exact q_cutB (s := s) (l := n) (h := s.xs.length) (by exact tl rfl) (by exact rfl) hok ⟨_, rfl⟩ rfl hl (Nat.le_refl _)) (k := ?_)
    refine ra1 (i := 4) [5, 6] (h := ?_)
    refine r_store_all (k := ?_)
    refine sl_nil ?_
    refine sp_nx (k := ?_)
    refine ra_first 5 [] [6] (hq := by exact q_assign) (k := ?_)
    refine ra_first 6 [] [] (hq := by exact q_assign) (k := ?_)
    refine ra_done ?_
    refine sp_then ?_
    refine sw_ret ?_
    refine sp_of_sl (fun h => f_have (φ := (cutB s n s.xs.length).res) (fun V w hw => cutB_res (hw _ (.head _)) hok hl (Nat.le_refl _)) h) ?_
    refine sp_ret3 rfl rfl (.one rfl (tz rfl) (.tail _ (.head _))) (.tmp rfl) (.tmp rfl) rfl rfl ⟨rfl, cutB s n s.xs.length, rfl, cutB_ok hok (Nat.le_refl _), ?_, rfl⟩ (by simp) rfl (by simp)
    exact List.take_of_length_le (by simp)
end Go.Proofs.YtjahiohlekdhoaaDoor

namespace Go.Proofs.YtjahiohlekdhoaaDoor
open Go
set_option maxHeartbeats 4000000
set_option maxRecDepth 4000
attribute [local irreducible] SW SL SP RA Then FQ IQ LoopQ RQ AQ NX CutQ Exit.noGoto

/-- A pointer. -/
structure PtrV where
  kind : UInt8
  a0 : UInt16
  a1 : UInt16
  birth : UInt32
  sum : UInt64
  deriving DecidableEq
def PtrV.cs (x : PtrV) : List Value := [v8 x.kind, v16 x.a0, v16 x.a1, v32 x.birth, v64 x.sum]
def PtrV.v (x : PtrV) : Value := .agg x.cs.toArray
def PtrV.none : PtrV := ⟨0, 0, 0, 0, 0⟩

theorem wf8 (x : UInt8) : (Lit.int .u8 (x.toNat : Int)).wf = true := by have := lt8 x; simp [Lit.wf, IntKind.min, IntKind.max, IntKind.signed, IntKind.bits]; omega
theorem wf16 (x : UInt16) : (Lit.int .u16 (x.toNat : Int)).wf = true := by have := lt16 x; simp [Lit.wf, IntKind.min, IntKind.max, IntKind.signed, IntKind.bits]; omega
theorem wf32 (x : UInt32) : (Lit.int .u32 (x.toNat : Int)).wf = true := by have := lt32 x; simp [Lit.wf, IntKind.min, IntKind.max, IntKind.signed, IntKind.bits]; omega
theorem wf64 (x : UInt64) : (Lit.int .u64 (x.toNat : Int)).wf = true := by have := lt64 x; simp [Lit.wf, IntKind.min, IntKind.max, IntKind.signed, IntKind.bits]; omega

def PtrV.lits (x : PtrV) : List Lit := [.int .u8 x.kind.toNat, .int .u16 x.a0.toNat, .int .u16 x.a1.toNat, .int .u32 x.birth.toNat, .int .u64 x.sum.toNat]

theorem ptr_keys (x : PtrV) : Tryd.prog.keyLits 4 27 x.cs = some x.lits := by
  have u27 := Tryd.underlying27
  have u24 := Tryd.underlying24
  have u5 := Tryd.underlying5
  have u22 := Tryd.underlying22
  have u23 := Tryd.underlying23
  have u25 := Tryd.underlying25
  have c24 : Tryd.prog.cellsOf 24 = 2 := by kernel_rfl
  have c27 : Tryd.prog.cellsOf 27 = 5 := by kernel_rfl
  have c5 : Tryd.prog.cellsOf 5 = 1 := by kernel_rfl
  have c22 : Tryd.prog.cellsOf 22 = 1 := by kernel_rfl
  have c23 : Tryd.prog.cellsOf 23 = 1 := by kernel_rfl
  have c25 : Tryd.prog.cellsOf 25 = 1 := by kernel_rfl
  simp [Program.keyLits, u27, u24, u5, u22, u23, u25, c24, c27, c5, c22, c23, c25, PtrV.cs, PtrV.lits, wf8, wf16, wf32, wf64, List.mapM_cons, List.range_succ]

theorem nat8 {x y : UInt8} : (x.toNat : Int) = (y.toNat : Int) ↔ x = y := by rw [Int.natCast_inj]; exact UInt8.toNat_inj
theorem nat16 {x y : UInt16} : (x.toNat : Int) = (y.toNat : Int) ↔ x = y := by rw [Int.natCast_inj]; exact UInt16.toNat_inj
theorem nat32 {x y : UInt32} : (x.toNat : Int) = (y.toNat : Int) ↔ x = y := by rw [Int.natCast_inj]; exact UInt32.toNat_inj
theorem nat64 {x y : UInt64} : (x.toNat : Int) = (y.toNat : Int) ↔ x = y := by rw [Int.natCast_inj]; exact UInt64.toNat_inj

theorem ptr_eq (x y : PtrV) (w : World) : (Op.equalIn 10000 27 (.agg x.cs.toArray) (.agg y.cs.toArray)).run Tryd.prog w = .ok (decide (x = y)) w := by
  obtain ⟨r, h1, h2⟩ := run_equalIn_deep (P := Tryd.prog) 9996 4 27 (by kernel_rfl) w 4 4 (.agg x.cs.toArray) (.agg y.cs.toArray) x.lits y.lits (by kernel_rfl) (by kernel_rfl) (by simpa [Value.cells] using ptr_keys x) (by simpa [Value.cells] using ptr_keys y)
  rw [show (10000 : Nat) = 9996 + 4 from rfl, h1]
  have e : x.lits = y.lits ↔ x = y := by
    constructor
    · intro h
      cases x; cases y
      simp only [PtrV.lits, List.cons.injEq, Lit.int.injEq, true_and, and_true, nat8, nat16, nat32, nat64] at h
      obtain ⟨rfl, rfl, rfl, rfl, rfl⟩ := h
      rfl
    · rintro rfl; rfl
  congr 1
  rw [Bool.eq_iff_iff, h2, e]
  simp

theorem c_none (G : Res) (x : PtrV) : Ctr Tryd.prog G 50 [x.v] [] [] (ret1 (vb (decide (x = PtrV.none)))) := by
  refine Ctr.intro Tryd.func50 (by kernel_rfl) rfl Tryd.ntmps50 rfl rfl rfl fun w X => ?_
  refine sw_seq ?_
  refine sw_region ?_
  refine r_box (k := fun bx => ?_)
  refine r_assign (k := ?_)
  refine sl_nil ?_
  refine sp_then ?_
  refine sw_seq ?_
  refine sw_region ?_
  refine r_load_all (k := ?_)
  refine r_buildP (parts := []) PtrV.none.cs (by exact rfl) (by kernel_rfl) (by exact rfl) ?_
  refine r_eqagg (xs := x.cs.toArray) (ys := PtrV.none.cs.toArray) (by exact rfl) (by exact rfl) (by kernel_rfl) (ptr_eq x PtrV.none) (by exact rfl) ?_
  refine r_assign (k := ?_)
  refine sl_nil ?_
  refine sp_then ?_
  refine sw_ret ?_
  refine sp_retv rfl rfl (.tmp rfl) rfl rfl ⟨rfl, rfl, rfl⟩ (by simp) rfl (by simp)

def PtrV.isMeta (x : PtrV) : Bool := decide ((x.kind.toNat : Int) = 1) || decide ((x.kind.toNat : Int) = 2)
theorem c_meta (G : Res) (x : PtrV) : Ctr Tryd.prog G 51 [x.v] [] [] (ret1 (vb x.isMeta)) := by
  refine Ctr.intro Tryd.func51 (by kernel_rfl) rfl Tryd.ntmps51 rfl rfl rfl fun w X => ?_
  refine sw_seq ?_
  refine sw_region ?_
  refine r_box (k := fun bx => ?_)
  refine r_assign (k := ?_)
  refine sl_nil ?_
  refine sp_then ?_
  refine sw_seq ?_
  refine sw_region ?_
  refine r_fieldAddr (k := ?_)
  refine r_load_one (k := ?_)
  refine r_eql (k := ?_)
  refine r_move (k := ?_)
  refine g_part (h1 := fun hg => ?_) (h2 := fun hg => ?_)
  focus
    refine gd_no (k := ?_)
    refine gd_no (k := ?_)
    refine gd_no (k := ?_)
    refine rd_pick_t (k := ?_)
    refine r_assign (k := ?_)
    refine sl_nil ?_
    refine sp_then ?_
    refine sw_ret ?_
  rotate_left 1
  focus
    refine gd_yes (k := ?_)
    refine r_fieldAddr (k := ?_)
    refine gd_yes (k := ?_)
    refine r_load_one (k := ?_)
    refine gd_yes (k := ?_)
    refine r_eql (k := ?_)
    refine rd_pick_f (k := ?_)
    refine r_assign (k := ?_)
    refine sl_nil ?_
    refine sp_then ?_
    refine sw_ret ?_
  rotate_left 1
  all_goals refine sp_retv rfl rfl (.tmp rfl) rfl rfl ⟨?_, rfl, rfl⟩ (by simp) rfl (by simp)
  all_goals simp_all [PtrV.isMeta]

def iElt (n : Int) (vs : List Value) : Res := Res.pure (vs = [vi n])
def PtrV.addrs (x : PtrV) : List Int := if x.isMeta then [(x.a0.toNat : Int), (x.a1.toNat : Int)] else if (x.kind.toNat : Int) = 3 then [(x.a0.toNat : Int)] else []

theorem c_addresses (G : Res) (x : PtrV) : Ctr Tryd.prog G 88 [x.v] [] [] (retF fun v Φ' => ∃ b, v = .func (.func 112) #[] #[.pointer (some ⟨b, 0, none⟩)] ∧ Φ' = [Res.mem (some ⟨b, 0, none⟩) x.cs]) := by
  refine Ctr.intro Tryd.func88 (by kernel_rfl) rfl Tryd.ntmps88 rfl rfl rfl fun w X => ?_
  refine sw_seq ?_
  refine sw_region ?_
  refine r_box (k := fun bx => ?_)
  refine r_assign (k := ?_)
  refine sl_nil ?_
  refine sp_then ?_
  refine sw_seq ?_
  refine sw_region ?_
  refine r_clos (k := ?_)
  refine r_assign (k := ?_)
  refine sl_nil ?_
  refine sp_then ?_
  refine sw_ret ?_
  refine sp_freeze ?_
  refine sp_retv rfl rfl (.tmp rfl) rfl rfl ⟨rfl, _, rfl, rfl⟩ (by simp) rfl (by simp)

theorem i_addresses (G : Res) (b : Nat) (x : PtrV) : ICtr Tryd.prog G 112 [.pointer (some ⟨b, 0, none⟩)] [] [Res.mem (some ⟨b, 0, none⟩) x.cs] iElt x.addrs := by
  refine ICtr.intro Tryd.func112 (by kernel_rfl) rfl Tryd.ntmps112 rfl rfl (fun _ => rfl) fun σ J Y go A l s0 w' X M hgo hA hY => ?_
  have h0 := At.start hgo hA
  refine sw_seq ?_
  refine sw_seq ?_
  refine sw_region ?_
  refine r_load_fr (k := ?_)
  refine r_call1 (c_meta G x) (by exact rfl) (by exact rfl) (by exact rfl) (by simp) (by exact rfl) ?_
  refine r_not (k := ?_)
  refine r_move (k := ?_)
  refine g_part (h1 := fun hg => ?_) (h2 := fun hg => ?_)
  focus
    refine gd_yes (k := ?_)
    refine r_fieldAddr (k := ?_)
    refine gd_yes (k := ?_)
    refine r_load_fr1 (k := ?_)
    refine gd_yes (k := ?_)
    refine r_neq (k := ?_)
    refine rd_pick_t (k := ?_)
    refine r_move (k := ?_)
    refine g_part (h1 := fun hg => ?_) (h2 := fun hg => ?_)
    focus
      refine gd_no (k := ?_)
      refine gd_no (k := ?_)
      refine gd_no (k := ?_)
      refine gd_no (k := ?_)
      refine gd_no (k := ?_)
      refine gd_no (k := ?_)
      refine gd_no (k := ?_)
      refine rd_pick_t (k := ?_)
      refine sl_nil ?_
      refine sp_then ?_
      refine swd_t (h := ?_)
      refine sw_ret ?_
      refine sp_then_ret ?_
    rotate_left 1
    focus
      refine gd_yes (k := ?_)
      refine r_move (k := ?_)
      refine gd_yes (k := ?_)
      refine r_fieldAddr (k := ?_)
      refine gd_yes (k := ?_)
      refine r_idx_arr (k := ?_)
      refine gd_yes (k := ?_)
      refine r_load_fr1 (k := ?_)
      refine gd_yes (k := ?_)
      refine r_cv_16_i (k := ?_)
      refine gd_yes (k := ?_)
    rotate_left 1
  rotate_left 2
  focus
    refine gd_no (k := ?_)
    refine gd_no (k := ?_)
    refine gd_no (k := ?_)
    refine rd_pick_f (k := ?_)
    refine r_move (k := ?_)
    refine gd_yes (k := ?_)
    refine r_move (k := ?_)
    refine gd_yes (k := ?_)
    refine r_fieldAddr (k := ?_)
    refine gd_yes (k := ?_)
    refine r_idx_arr (k := ?_)
    refine gd_yes (k := ?_)
    refine r_load_fr1 (k := ?_)
    refine gd_yes (k := ?_)
    refine r_cv_16_i (k := ?_)
    refine gd_yes (k := ?_)
  rotate_left 1
  · have e : x.addrs = [] := by simp_all [PtrV.addrs]
    rw [e] at h0
    refine sp_iret rfl rfl rfl ⟨by rw [e]; exact h0.done, rfl, rfl⟩ (by simp) rfl (by simp) rfl
  · rename_i hm
    have hm : x.isMeta = false := by simpa using hm
    have e : x.addrs = [(x.a0.toNat : Int)] := by simp_all [PtrV.addrs]
    rw [e] at h0
    refine r_yield hY hgo h0.give (by exact rfl) (by exact rfl) (el := (x.a0.toNat : Int)) (fun _ _ _ => rfl) (by exact rfl) ?_
    refine gd_yes (k := ?_)
    refine r_not (k := ?_)
    refine rd_pick_f (k := ?_)
    refine sl_nil ?_
    refine sp_then ?_
    cases hg : go (Y s0 (x.a0.toNat : Int))
    · refine swd_t (h := ?_)
      refine sw_ret ?_
      refine sp_then_ret ?_
      refine sp_iret rfl rfl rfl ⟨by rw [e]; exact h0.stop hg, rfl, rfl⟩ (by simp) rfl (by simp) rfl
    · have h1 := h0.next hg
      refine swd_f (h := ?_)
      refine sw_skip ?_
      refine sp_then ?_
      refine sw_seq ?_
      refine sw_region ?_
      refine r_load_fr (k := ?_)
      refine r_call1 (c_meta G x) (by exact rfl) (by exact rfl) (by exact rfl) (by simp) (by exact rfl) ?_
      rw [hm]
      refine sl_nil ?_
      refine sp_then ?_
      refine swd_f (h := ?_)
      refine sw_skip ?_
      refine sp_inorm rfl rfl rfl ⟨by rw [e]; exact h1.done, rfl, rfl⟩ (by simp) rfl (by simp) rfl
  · have hm : x.isMeta = true := by simpa using hg
    have e : x.addrs = [(x.a0.toNat : Int), (x.a1.toNat : Int)] := by simp_all [PtrV.addrs]
    rw [e] at h0
    refine r_yield hY hgo h0.give (by exact rfl) (by exact rfl) (el := (x.a0.toNat : Int)) (fun _ _ _ => rfl) (by exact rfl) ?_
    refine gd_yes (k := ?_)
    refine r_not (k := ?_)
    refine rd_pick_f (k := ?_)
    refine sl_nil ?_
    refine sp_then ?_
    cases hg : go (Y s0 (x.a0.toNat : Int))
    · refine swd_t (h := ?_)
      refine sw_ret ?_
      refine sp_then_ret ?_
      refine sp_iret rfl rfl rfl ⟨by rw [e]; exact h0.stop hg, rfl, rfl⟩ (by simp) rfl (by simp) rfl
    · have h1 := h0.next hg
      refine swd_f (h := ?_)
      refine sw_skip ?_
      refine sp_then ?_
      refine sw_seq ?_
      refine sw_region ?_
      refine r_load_fr (k := ?_)
      refine r_call1 (c_meta G x) (by exact rfl) (by exact rfl) (by exact rfl) (by simp) (by exact rfl) ?_
      rw [hm]
      refine sl_nil ?_
      refine sp_then ?_
      refine swd_t (h := ?_)
      refine sw_region ?_
      refine r_move (k := ?_)
      refine r_fieldAddr (k := ?_)
      refine r_idx_arr (k := ?_)
      refine r_load_fr1 (k := ?_)
      refine r_cv_16_i (k := ?_)
      refine r_yield hY h1.go' h1.give (by exact rfl) (by exact rfl) (el := (x.a1.toNat : Int)) (fun _ _ _ => rfl) (by exact rfl) ?_
      refine sl_nil ?_
      cases hg : go (Y (Y s0 (x.a0.toNat : Int)) (x.a1.toNat : Int))
      · refine sp_inorm rfl rfl rfl ⟨by rw [e]; exact h1.stop hg, rfl, rfl⟩ (by simp) rfl (by simp) rfl
      · refine sp_inorm rfl rfl rfl ⟨by rw [e]; exact (h1.next hg).done, rfl, rfl⟩ (by simp) rfl (by simp) rfl

/-- The widths of a pointer's numbers. -/
def GW : Res := Res.mem (some ⟨0, 0, none⟩) [vi 1, vi 2, vi 2, vi 4, vi 8]

def PtrV.pre (x : PtrV) : Bool := (decide (1 ≤ (x.birth.toNat : Int)) && decide ((x.birth.toNat : Int) ≤ 1073741824)) && ((x.isMeta && decide ((x.a0.toNat : Int) ≠ (x.a1.toNat : Int))) || (decide ((x.kind.toNat : Int) = 3) && decide ((x.a1.toNat : Int) = 0)))
def PtrV.right (x : PtrV) (size : Int) : Bool := x.pre && x.addrs.all fun at' => decide (4 ≤ at') && decide (at' < size)

def looks (size : Int) (s : Bool × Bool) (at' : Int) : Bool × Bool := (s.1 && decide (4 ≤ at') && decide (at' < size), !(s.1 && decide (4 ≤ at') && decide (at' < size)))
theorem c_pright (G : Res) (x : PtrV) (size : Int) : Ctr Tryd.prog G 52 [x.v, vi size] [] [] (ret1 (vb (x.right size))) := by
  refine Ctr.intro Tryd.func52 (by kernel_rfl) rfl Tryd.ntmps52 rfl rfl rfl fun w X => ?_
  refine sw_seq ?_
  refine sw_region ?_
  refine r_box (by exact rfl) (by exact rfl) (by exact rfl) fun p => ?_
  refine r_box (by exact rfl) (by exact rfl) (by exact rfl) fun bx => ?_
  refine r_alloc (by exact z4) (by exact rfl) (by exact rfl) fun b => ?_
  refine sl_nil ?_
  refine sp_then ?_
  refine sw_scope ?_
  refine sw_cut [(2, .pointer (some ⟨p, 0, none⟩)), (3, .pointer (some ⟨bx, 0, none⟩)), (4, .pointer (some ⟨b, 0, none⟩))] [.box b [vb x.pre] 4, .box bx [vi size] 3, .box p x.cs 27] [] [] ?_ ?_
  · refine sw_region ?_
    refine r_fieldAddr (k := ?_)
    refine r_load_one (k := ?_)
    refine r_geq (k := ?_)
    refine r_move (k := ?_)
    refine g_part (h1 := fun hg => ?_) (h2 := fun hg => ?_)
    focus
      refine gd_yes (k := ?_)
      refine r_fieldAddr (k := ?_)
      refine gd_yes (k := ?_)
      refine r_load_one (k := ?_)
      refine gd_yes (k := ?_)
      refine r_leq (k := ?_)
      refine rd_pick_t (k := ?_)
      refine r_move (k := ?_)
      refine g_part (h1 := fun hg => ?_) (h2 := fun hg => ?_)
      focus
        refine gd_yes (k := ?_)
        refine r_load_all (k := ?_)
        refine gd_yes (k := ?_)
      rotate_left 1
      focus
        refine gd_no (k := ?_)
        refine gd_no (k := ?_)
        refine gd_no (k := ?_)
        refine gd_un (k := ?_)
        refine gd_un (k := ?_)
        refine gd_un (k := ?_)
        refine gd_un (k := ?_)
        refine gd_un (k := ?_)
        refine gd_un (k := ?_)
        refine gd_un (k := ?_)
        refine gd_no (k := ?_)
        refine gd_no (k := ?_)
        refine gd_un (k := ?_)
        refine gd_un (k := ?_)
        refine gd_un (k := ?_)
        refine gd_un (k := ?_)
        refine gd_un (k := ?_)
        refine gd_un (k := ?_)
        refine gd_un (k := ?_)
        refine gd_un (k := ?_)
        refine gd_un (k := ?_)
        refine gd_no (k := ?_)
        refine rd_pick_f (k := ?_)
        refine r_store_all (k := ?_)
        refine sl_nil ?_
      rotate_left 1
    rotate_left 2
    focus
      refine gd_no (k := ?_)
      refine gd_no (k := ?_)
      refine gd_no (k := ?_)
      refine rd_pick_f (k := ?_)
      refine r_move (k := ?_)
      refine gd_no (k := ?_)
      refine gd_no (k := ?_)
      refine gd_no (k := ?_)
      refine gd_un (k := ?_)
      refine gd_un (k := ?_)
      refine gd_un (k := ?_)
      refine gd_un (k := ?_)
      refine gd_un (k := ?_)
      refine gd_un (k := ?_)
      refine gd_un (k := ?_)
      refine gd_no (k := ?_)
      refine gd_no (k := ?_)
      refine gd_un (k := ?_)
      refine gd_un (k := ?_)
      refine gd_un (k := ?_)
      refine gd_un (k := ?_)
      refine gd_un (k := ?_)
      refine gd_un (k := ?_)
      refine gd_un (k := ?_)
      refine gd_un (k := ?_)
      refine gd_un (k := ?_)
      refine gd_no (k := ?_)
      refine rd_pick_f (k := ?_)
      refine r_store_all (k := ?_)
      refine sl_nil ?_
    rotate_left 1
    any_goals refine r_call1 (c_meta G x) (by exact rfl) (by exact rfl) (by exact rfl) (by simp) (by exact rfl) ?_
    focus
      refine gd_yes (k := ?_)
      refine r_move (k := ?_)
      refine g_part (h1 := fun hg => ?_) (h2 := fun hg => ?_)
      focus
        refine gd_yes (k := ?_)
        refine r_fieldAddr (k := ?_)
        refine gd_yes (k := ?_)
        refine r_idx_arr (k := ?_)
        refine gd_yes (k := ?_)
        refine r_load_one (k := ?_)
        refine gd_yes (k := ?_)
        refine r_fieldAddr (k := ?_)
        refine gd_yes (k := ?_)
        refine r_idx_arr (k := ?_)
        refine gd_yes (k := ?_)
        refine r_load_one (k := ?_)
        refine gd_yes (k := ?_)
        refine r_neq (k := ?_)
        refine gd_yes (k := ?_)
        refine rd_pick_t (k := ?_)
        refine gd_yes (k := ?_)
        refine r_move (k := ?_)
        refine g_part (h1 := fun hg => ?_) (h2 := fun hg => ?_)
        focus
          refine gd_no (k := ?_)
          refine gd_no (k := ?_)
          refine gd_no (k := ?_)
          refine gd_no (k := ?_)
          refine gd_un (k := ?_)
          refine gd_un (k := ?_)
          refine gd_un (k := ?_)
          refine gd_un (k := ?_)
          refine gd_no (k := ?_)
          refine gd_yes (k := ?_)
          refine rd_pick_t (k := ?_)
          refine rd_pick_t (k := ?_)
          refine r_store_all (k := ?_)
          refine sl_nil ?_
        rotate_left 1
        focus
          refine gd_yes (k := ?_)
          refine r_fieldAddr (k := ?_)
          refine gd_yes (k := ?_)
          refine r_load_one (k := ?_)
          refine gd_yes (k := ?_)
          refine r_eql (k := ?_)
          refine gd_yes (k := ?_)
          refine r_move (k := ?_)
          refine g_part (h1 := fun hg => ?_) (h2 := fun hg => ?_)
          focus
            refine gd_yes (k := ?_)
            refine r_fieldAddr (k := ?_)
            refine gd_yes (k := ?_)
            refine r_idx_arr (k := ?_)
            refine gd_yes (k := ?_)
            refine r_load_one (k := ?_)
            refine gd_yes (k := ?_)
            refine r_eql (k := ?_)
            refine gd_yes (k := ?_)
            refine rd_pick_t (k := ?_)
            refine gd_yes (k := ?_)
            refine rd_pick_f (k := ?_)
            refine rd_pick_t (k := ?_)
            refine r_store_all (k := ?_)
            refine sl_nil ?_
          rotate_left 1
          focus
            refine gd_no (k := ?_)
            refine gd_no (k := ?_)
            refine gd_no (k := ?_)
            refine gd_no (k := ?_)
            refine gd_yes (k := ?_)
            refine rd_pick_f (k := ?_)
            refine gd_yes (k := ?_)
            refine rd_pick_f (k := ?_)
            refine rd_pick_t (k := ?_)
            refine r_store_all (k := ?_)
            refine sl_nil ?_
          rotate_left 1
        rotate_left 2
      rotate_left 3
      focus
        refine gd_no (k := ?_)
        refine gd_no (k := ?_)
        refine gd_no (k := ?_)
        refine gd_no (k := ?_)
        refine gd_no (k := ?_)
        refine gd_no (k := ?_)
        refine gd_no (k := ?_)
        refine gd_yes (k := ?_)
        refine rd_pick_f (k := ?_)
        refine gd_yes (k := ?_)
        refine r_move (k := ?_)
        refine gd_yes (k := ?_)
        refine r_fieldAddr (k := ?_)
        refine gd_yes (k := ?_)
        refine r_load_one (k := ?_)
        refine gd_yes (k := ?_)
        refine r_eql (k := ?_)
        refine gd_yes (k := ?_)
        refine r_move (k := ?_)
        refine g_part (h1 := fun hg => ?_) (h2 := fun hg => ?_)
        focus
          refine gd_yes (k := ?_)
          refine r_fieldAddr (k := ?_)
          refine gd_yes (k := ?_)
          refine r_idx_arr (k := ?_)
          refine gd_yes (k := ?_)
          refine r_load_one (k := ?_)
          refine gd_yes (k := ?_)
          refine r_eql (k := ?_)
          refine gd_yes (k := ?_)
          refine rd_pick_t (k := ?_)
          refine gd_yes (k := ?_)
          refine rd_pick_f (k := ?_)
          refine rd_pick_t (k := ?_)
          refine r_store_all (k := ?_)
          refine sl_nil ?_
        rotate_left 1
        focus
          refine gd_no (k := ?_)
          refine gd_no (k := ?_)
          refine gd_no (k := ?_)
          refine gd_no (k := ?_)
          refine gd_yes (k := ?_)
          refine rd_pick_f (k := ?_)
          refine gd_yes (k := ?_)
          refine rd_pick_f (k := ?_)
          refine rd_pick_t (k := ?_)
          refine r_store_all (k := ?_)
          refine sl_nil ?_
        rotate_left 1
      rotate_left 2
    rotate_left 5
    rotate_left 1
    rotate_left 1
    all_goals refine sp_cutB (by repeat' (first | trivial | exact rfl | apply And.intro)) trivial ?_
    all_goals (simp_all [PtrV.pre] <;> (intros; omega))
  · refine sw_seq ?_
    refine sw_label ?_
    refine sp_then ?_
    refine sw_seq ?_
    refine sw_seq ?_
    refine sw_region ?_
    refine r_load_all (k := ?_)
    refine r_callF (c_addresses G x) (by exact rfl) (by exact rfl) (by exact rfl) (by simp) (by exact rfl) ?_
    rintro _ _ ⟨q, rfl, rfl⟩
    refine sl_nil ?_
    refine sp_then ?_
    refine sw_block ?_
    have key : ∀ (L : List Int) (r : Bool), (runs (looks size) (fun s => ((bif s.2 then some (Code.exit 0) else none).isNone)) (r, false) L).1 = (r && L.all fun at' => decide (4 ≤ at') && decide (at' < size)) := by
      intro L
      induction L with
      | nil => intro r; simp [runs]
      | cons a l ih =>
        intro r
        cases h : (r && decide (4 ≤ a) && decide (a < size))
        · rw [runs_stop (by simp [looks, h])]
          show (r && decide (4 ≤ a) && decide (a < size)) = _
          rw [List.all_cons, ← Bool.and_assoc, ← Bool.and_assoc, h]; rfl
        · rw [runs_cons (by simp [looks, h])]
          have e : looks size (r, false) a = (true, false) := by simp [looks, h]
          rw [e, ih, List.all_cons, ← Bool.and_assoc, ← Bool.and_assoc, h]
    refine sw_range0 (ι := Unit) (i_addresses G q x) (fun r _ => [.box b [vb r.1] 4, .box bx [vi size] 3, .box p x.cs 27]) (fun _ _ => []) (fun s => bif s.2 then some (.exit 0) else none) (looks size) (fun _ _ => True) (x.pre, false) () rfl rfl rfl (adm_true _ _) rfl (by simp) (by simp) (fun _ _ => rfl) rfl (fun x vs V w h => by rw [show vs = [vi x] from h]; rfl) ?_ ?_
    · rintro l mk rec w X U K ⟨r, st⟩ _ at' vs hrec hj _ ht
      have hst : st = false := by cases st <;> simp_all
      subst hst
      refine w_pure ?_
      rintro rfl
      refine sw_region ?_
      refine r_assign (k := ?_)
      refine sl_nil ?_
      refine sp_asgR hrec rfl ?_
      dsimp only [pull, push, two, List.drop, List.take, List.cons_append, List.nil_append]
      refine sw_block ?_
      refine sw_seq ?_
      refine sw_region ?_
      refine r_load_one (k := ?_)
      refine r_move (k := ?_)
      refine g_part (h1 := fun hg => ?_) (h2 := fun hg => ?_)
      focus
        refine gd_yes (k := ?_)
        refine r_move (k := ?_)
        refine gd_yes (k := ?_)
        refine r_geq (k := ?_)
        refine rd_pick_t (k := ?_)
        refine r_move (k := ?_)
        refine g_part (h1 := fun hg => ?_) (h2 := fun hg => ?_)
        focus
          refine gd_yes (k := ?_)
          refine r_move (k := ?_)
          refine gd_yes (k := ?_)
          refine r_load_one (k := ?_)
          refine gd_yes (k := ?_)
          refine r_lss (k := ?_)
          refine rd_pick_t (k := ?_)
          refine r_store_all (k := ?_)
          refine sl_nil ?_
          refine sp_then ?_
          refine sw_seq ?_
          refine sw_region ?_
          refine r_load_one (k := ?_)
          refine r_not (k := ?_)
          refine sl_nil ?_
          refine sp_then ?_
          refine sw_cond (h1 := fun hg => ?_) (h2 := fun hg => ?_)
          focus
            refine sw_exit ?_
            refine sp_block_exit' (h := ?_)
          rotate_left 1
          focus
            refine sw_skip ?_
            refine sp_block ?_
          rotate_left 1
        rotate_left 2
        focus
          refine gd_no (k := ?_)
          refine gd_no (k := ?_)
          refine gd_no (k := ?_)
          refine rd_pick_f (k := ?_)
          refine r_store_all (k := ?_)
          refine sl_nil ?_
          refine sp_then ?_
          refine sw_seq ?_
          refine sw_region ?_
          refine r_load_one (k := ?_)
          refine r_not (k := ?_)
          refine sl_nil ?_
          refine sp_then ?_
          refine swd_t (h := ?_)
          refine sw_exit ?_
          refine sp_block_exit' (h := ?_)
        rotate_left 1
      rotate_left 3
      focus
        refine gd_no (k := ?_)
        refine gd_no (k := ?_)
        refine rd_pick_f (k := ?_)
        refine r_move (k := ?_)
        refine gd_no (k := ?_)
        refine gd_no (k := ?_)
        refine gd_no (k := ?_)
        refine rd_pick_f (k := ?_)
        refine r_store_all (k := ?_)
        refine sl_nil ?_
        refine sp_then ?_
        refine sw_seq ?_
        refine sw_region ?_
        refine r_load_one (k := ?_)
        refine r_not (k := ?_)
        refine sl_nil ?_
        refine sp_then ?_
        refine swd_t (h := ?_)
        refine sw_exit ?_
        refine sp_block_exit' (h := ?_)
      rotate_left 1
      all_goals
        unfold looks
        clear key
        generalize decide (4 ≤ at') = d1 at *
        generalize decide (at' < size) = d2 at *
        cases d1 <;> cases d2 <;> cases r <;> first | contradiction | skip
      all_goals first
        | exact sp_round_exit (ι := Unit) (i' := ()) ht hrec rfl (List.Sublist.refl _) (by simp)
        | exact sp_round (ι := Unit) (i' := ()) ht hrec rfl (List.Sublist.refl _) (by simp)
    · rintro ⟨r, st⟩ _ mk hs
      have hr : r = x.right size := by
        have := key x.addrs x.pre
        rw [← hs] at this
        exact this
      subst hr
      cases st
      · refine ⟨fun _ => ?_, fun j h => (by cases h)⟩
        refine sp_block ?_
        refine sp_then ?_
        refine sw_seq ?_
        refine sw_region ?_
        refine r_load_one (k := ?_)
        refine r_store_all (k := ?_)
        refine sl_nil ?_
        refine sp_then ?_
        refine sw_ret ?_
        refine sp_ng_ret ?_
        refine sp_retv rfl rfl (.one rfl (tz rfl) (.tail _ (.head _))) rfl rfl ⟨rfl, rfl, rfl⟩ (by simp) rfl (by simp)
      · refine ⟨fun h => (by cases h), fun j h => ?_⟩
        obtain rfl : Code.exit 0 = j := by simpa using h
        refine sw_exit ?_
        refine sp_block_exit ?_
        refine sp_then ?_
        refine sw_seq ?_
        refine sw_region ?_
        refine r_load_one (k := ?_)
        refine r_store_all (k := ?_)
        refine sl_nil ?_
        refine sp_then ?_
        refine sw_ret ?_
        refine sp_ng_ret ?_
        refine sp_retv rfl rfl (.one rfl (tz rfl) (.tail _ (.head _))) rfl rfl ⟨rfl, rfl, rfl⟩ (by simp) rfl (by simp)

theorem w_g {c : Ctx} {ρ : List (Nat × Value)} {B : List Own} {Φ : List Res} {Ψ : List JR} {Q : Post} {code : Code} (k : SW c ρ B (c.G :: Φ) Ψ code Q) : SW c ρ B Φ Ψ code Q := sl_to_sw (fun h => f_g h) k

/-- Numbers, and how wide they are: their bytes. -/
def packed (l : List (UInt64 × Nat)) : List UInt8 := l.flatMap fun p => le p.2 p.1
theorem packed_snoc (l : List (UInt64 × Nat)) (n : UInt64) (w : Nat) : packed (l ++ [(n, w)]) = packed l ++ le w n := by simp [packed]
def PtrV.nums (x : PtrV) : List (UInt64 × Nat) := [(x.kind.toUInt64, 1), (x.a0.toUInt64, 2), (x.a1.toUInt64, 2), (x.birth.toUInt64, 4), (x.sum, 8)]
def PtrV.bytes (x : PtrV) : List UInt8 := packed x.nums

theorem packed_len (l : List (UInt64 × Nat)) : (packed l).length = (l.map (·.2)).sum := by
  induction l with
  | nil => rfl
  | cons p l ih => simp only [packed, List.flatMap_cons, List.length_append, le_length, List.map_cons, List.sum_cons] at ih ⊢; rw [ih]

theorem c_pput (s : BS) (x : PtrV) (hok : s.ok) (hl : s.xs.length ≤ 1099511627776) : Ctr Tryd.prog GW 46 [s.v, x.v] [] [s.res] (retB (s.xs ++ x.bytes)) := by
  refine Ctr.intro Tryd.func46 (by kernel_rfl) rfl Tryd.ntmps46 rfl rfl rfl fun w X => ?_
  refine w_g ?_
  refine sw_seq ?_
  refine sw_region ?_
  refine r_box (k := fun bx => ?_)
  refine r_assign (k := ?_)
  refine sl_nil ?_
  refine sp_then ?_
  refine sw_seq ?_
  refine sw_seq ?_
  refine sw_region ?_
  refine r_fieldAddr (k := ?_)
  refine r_load_one (k := ?_)
  refine r_cv_8_64 (k := ?_)
  refine r_fieldAddr (k := ?_)
  refine r_idx_arr (k := ?_)
  refine r_load_one (k := ?_)
  refine r_cv_16_64 (k := ?_)
  refine r_fieldAddr (k := ?_)
  refine r_idx_arr (k := ?_)
  refine r_load_one (k := ?_)
  refine r_cv_16_64 (k := ?_)
  refine r_fieldAddr (k := ?_)
  refine r_load_one (k := ?_)
  refine r_cv_32_64 (k := ?_)
  refine r_fieldAddr (k := ?_)
  refine r_load_one (k := ?_)
  refine r_buildP [v64 x.kind.toUInt64, v64 x.a0.toUInt64, v64 x.a1.toUInt64, v64 x.birth.toUInt64, v64 x.sum] (parts := [(0, .tmp 9), (1, .tmp 13), (2, .tmp 17), (3, .tmp 20), (4, .tmp 22)]) (by exact rfl) (by kernel_rfl) (by exact rfl) ?_
  refine r_move (k := ?_)
  refine sl_nil ?_
  refine sp_then ?_
  refine sw_block ?_
  refine sw_loop (ι := { p : Nat × BS // p.1 ≤ 5 ∧ p.2.ok ∧ p.2.xs = s.xs ++ packed (x.nums.take p.1) })
    (fun p => [(0, p.1.2.v), (23, .agg #[v64 x.kind.toUInt64, v64 x.a0.toUInt64, v64 x.a1.toUInt64, v64 x.birth.toUInt64, v64 x.sum]), (24, vi (p.1.1 : Int))]) (fun _ => [.box bx x.cs 27]) (fun p => [p.1.2.res, GW]) (fun _ => []) (fun p => 5 - p.1.1) ⟨(0, s), by simp, hok, by simp [packed]⟩ ?_ fun i => ?_
  · exact Ent.mk' (by repeat' (first | trivial | exact rfl | apply And.intro)) (by repeat' (first | trivial | exact .head _ | apply And.intro | apply List.Mem.tail))
  obtain ⟨⟨i, s'⟩, hi, hok', hx⟩ := i
  dsimp only at hi hok' hx ⊢
  refine sw_seq ?_
  refine sw_region ?_
  refine r_lss (k := ?_)
  refine sl_nil ?_
  refine sp_then ?_
  refine sw_seq ?_
  refine sw_cond rfl (fun h => ?_) (fun h => ?_)
  · have h := of_decide_eq_true h
    have hlen : s'.xs.length ≤ 1099511627776 + 17 := by
      rw [hx, List.length_append, packed_len]
      have : ((x.nums.take i).map (·.2)).sum ≤ 17 := by
        have : i = 0 ∨ i = 1 ∨ i = 2 ∨ i = 3 ∨ i = 4 := by omega
        rcases this with rfl | rfl | rfl | rfl | rfl <;> simp [PtrV.nums]
      omega
    have hc : i = 0 ∨ i = 1 ∨ i = 2 ∨ i = 3 ∨ i = 4 := by omega
    refine sw_skip ?_
    refine sp_then ?_
    refine sw_seq ?_
    refine sw_block ?_
    refine sw_seq ?_
    refine sw_region ?_
    refine r_move (k := ?_)
    rcases hc with rfl | rfl | rfl | rfl | rfl
    all_goals refine r_index (by exact ta rfl) (by exact tz rfl) (by exact rfl) (by exact rfl) (by omega) (by omega) (by exact Int.toNat_natCast _) (by exact rfl) (by exact rfl) ?_
    focus
      refine r_assign (k := ?_)
      refine r_assign (k := ?_)
      refine sl_nil ?_
      refine sp_then ?_
      refine sw_region ?_
      refine r_move (k := ?_)
      refine r_move (k := ?_)
      refine r_move (k := ?_)
      refine r_idx_arr (k := ?_)
      refine r_load_fr1 (k := ?_)
    rotate_left 1
    focus
      refine r_assign (k := ?_)
      refine r_assign (k := ?_)
      refine sl_nil ?_
      refine sp_then ?_
      refine sw_region ?_
      refine r_move (k := ?_)
      refine r_move (k := ?_)
      refine r_move (k := ?_)
      refine r_idx_arr (k := ?_)
      refine r_load_fr1 (k := ?_)
    rotate_left 1
    focus
      refine r_assign (k := ?_)
      refine r_assign (k := ?_)
      refine sl_nil ?_
      refine sp_then ?_
      refine sw_region ?_
      refine r_move (k := ?_)
      refine r_move (k := ?_)
      refine r_move (k := ?_)
      refine r_idx_arr (k := ?_)
      refine r_load_fr1 (k := ?_)
    rotate_left 1
    focus
      refine r_assign (k := ?_)
      refine r_assign (k := ?_)
      refine sl_nil ?_
      refine sp_then ?_
      refine sw_region ?_
      refine r_move (k := ?_)
      refine r_move (k := ?_)
      refine r_move (k := ?_)
      refine r_idx_arr (k := ?_)
      refine r_load_fr1 (k := ?_)
    rotate_left 1
    focus
      refine r_assign (k := ?_)
      refine r_assign (k := ?_)
      refine sl_nil ?_
      refine sp_then ?_
      refine sw_region ?_
      refine r_move (k := ?_)
      refine r_move (k := ?_)
      refine r_move (k := ?_)
      refine r_idx_arr (k := ?_)
      refine r_load_fr1 (k := ?_)
    rotate_left 1
    · refine r_callB (c_put GW s' _ 1 (by decide) (by decide) (by omega)) (by exact rfl) (by exact rfl) (by exact rfl) (by simp) (by exact rfl) fun r hr hxr => ?_
      refine r_assign (k := ?_)
      refine sl_nil ?_
      refine sp_block ?_
      refine sp_then ?_
      refine sw_region ?_
      refine r_add64 (k := ?_)
      refine r_move (k := ?_)
      refine sl_nil ?_
      refine sp_loop (ι := { p : Nat × BS // p.1 ≤ 5 ∧ p.2.ok ∧ p.2.xs = s.xs ++ packed (x.nums.take p.1) }) ⟨(1, r), by simp, hr, by rw [hxr, hx]; simp [packed, PtrV.nums]⟩ ?_ ?_
      · dsimp only; omega
      · exact Ent.mk' (by repeat' (first | trivial | exact rfl | apply And.intro)) (by repeat' (first | trivial | exact .head _ | apply And.intro | apply List.Mem.tail))
    · refine r_callB (c_put GW s' _ 2 (by decide) (by decide) (by omega)) (by exact rfl) (by exact rfl) (by exact rfl) (by simp) (by exact rfl) fun r hr hxr => ?_
      refine r_assign (k := ?_)
      refine sl_nil ?_
      refine sp_block ?_
      refine sp_then ?_
      refine sw_region ?_
      refine r_add64 (k := ?_)
      refine r_move (k := ?_)
      refine sl_nil ?_
      refine sp_loop (ι := { p : Nat × BS // p.1 ≤ 5 ∧ p.2.ok ∧ p.2.xs = s.xs ++ packed (x.nums.take p.1) }) ⟨(2, r), by simp, hr, by rw [hxr, hx]; simp [packed, PtrV.nums]⟩ ?_ ?_
      · dsimp only; omega
      · exact Ent.mk' (by repeat' (first | trivial | exact rfl | apply And.intro)) (by repeat' (first | trivial | exact .head _ | apply And.intro | apply List.Mem.tail))
    · refine r_callB (c_put GW s' _ 2 (by decide) (by decide) (by omega)) (by exact rfl) (by exact rfl) (by exact rfl) (by simp) (by exact rfl) fun r hr hxr => ?_
      refine r_assign (k := ?_)
      refine sl_nil ?_
      refine sp_block ?_
      refine sp_then ?_
      refine sw_region ?_
      refine r_add64 (k := ?_)
      refine r_move (k := ?_)
      refine sl_nil ?_
      refine sp_loop (ι := { p : Nat × BS // p.1 ≤ 5 ∧ p.2.ok ∧ p.2.xs = s.xs ++ packed (x.nums.take p.1) }) ⟨(3, r), by simp, hr, by rw [hxr, hx]; simp [packed, PtrV.nums]⟩ ?_ ?_
      · dsimp only; omega
      · exact Ent.mk' (by repeat' (first | trivial | exact rfl | apply And.intro)) (by repeat' (first | trivial | exact .head _ | apply And.intro | apply List.Mem.tail))
    · refine r_callB (c_put GW s' _ 4 (by decide) (by decide) (by omega)) (by exact rfl) (by exact rfl) (by exact rfl) (by simp) (by exact rfl) fun r hr hxr => ?_
      refine r_assign (k := ?_)
      refine sl_nil ?_
      refine sp_block ?_
      refine sp_then ?_
      refine sw_region ?_
      refine r_add64 (k := ?_)
      refine r_move (k := ?_)
      refine sl_nil ?_
      refine sp_loop (ι := { p : Nat × BS // p.1 ≤ 5 ∧ p.2.ok ∧ p.2.xs = s.xs ++ packed (x.nums.take p.1) }) ⟨(4, r), by simp, hr, by rw [hxr, hx]; simp [packed, PtrV.nums]⟩ ?_ ?_
      · dsimp only; omega
      · exact Ent.mk' (by repeat' (first | trivial | exact rfl | apply And.intro)) (by repeat' (first | trivial | exact .head _ | apply And.intro | apply List.Mem.tail))
    · refine r_callB (c_put GW s' _ 8 (by decide) (by decide) (by omega)) (by exact rfl) (by exact rfl) (by exact rfl) (by simp) (by exact rfl) fun r hr hxr => ?_
      refine r_assign (k := ?_)
      refine sl_nil ?_
      refine sp_block ?_
      refine sp_then ?_
      refine sw_region ?_
      refine r_add64 (k := ?_)
      refine r_move (k := ?_)
      refine sl_nil ?_
      refine sp_loop (ι := { p : Nat × BS // p.1 ≤ 5 ∧ p.2.ok ∧ p.2.xs = s.xs ++ packed (x.nums.take p.1) }) ⟨(5, r), by simp, hr, by rw [hxr, hx]; simp [packed, PtrV.nums]⟩ ?_ ?_
      · dsimp only; omega
      · exact Ent.mk' (by repeat' (first | trivial | exact rfl | apply And.intro)) (by repeat' (first | trivial | exact .head _ | apply And.intro | apply List.Mem.tail))
  · have h := of_decide_eq_false h
    obtain rfl : i = 5 := by omega
    refine sw_exit ?_
    refine sp_then_exit ?_
    refine sp_loop_exit ?_
    refine sp_block_exit ?_
    refine sp_then ?_
    refine sw_seq ?_
    refine sw_region ?_
    refine r_move (k := ?_)
    refine r_assign (k := ?_)
    refine sl_nil ?_
    refine sp_then ?_
    refine sw_ret ?_
    refine sp_retv rfl rfl (.tmp rfl) rfl rfl ⟨rfl, s', rfl, hok', hx, rfl⟩ (by simp) rfl (by simp)

/-- The numbers of a pointer's bytes. -/
def pvals (xs : List UInt8) : List UInt64 := [unle (xs.take 1), unle ((xs.drop 1).take 2), unle ((xs.drop 3).take 2), unle ((xs.drop 5).take 4), unle ((xs.drop 9).take 8)]
def pcells (xs : List UInt8) (i : Nat) : List Value := ((pvals xs).take i ++ List.replicate (5 - i) 0).map v64
def poff : Nat → Nat
  | 0 => 0 | 1 => 1 | 2 => 3 | 3 => 5 | 4 => 9 | _ => 17
def ptake (xs : List UInt8) : PtrV := ⟨(unle (xs.take 1)).toUInt8, (unle ((xs.drop 1).take 2)).toUInt16, (unle ((xs.drop 3).take 2)).toUInt16, (unle ((xs.drop 5).take 4)).toUInt32, unle ((xs.drop 9).take 8)⟩

theorem c_ptake (s : BS) (hok : s.ok) (hl : 17 ≤ s.xs.length) : Ctr Tryd.prog GW 54 [s.v] [] [s.res] (retF fun v Φ' => ∃ r : BS, v = .tuple #[(ptake s.xs).v, r.v, vi 0] ∧ r.ok ∧ r.xs = s.xs.drop 17 ∧ Φ' = [r.res]) := by
  refine Ctr.intro Tryd.func54 (by kernel_rfl) rfl Tryd.ntmps54 rfl rfl rfl fun w X => ?_
  refine w_g ?_
  refine sw_seq ?_
  refine sw_region ?_
  refine r_alloc (by exact z27) (by exact rfl) (by exact rfl) fun b2 => ?_
  refine r_assign (k := ?_)
  refine r_assign (k := ?_)
  refine sl_nil ?_
  refine sp_then ?_
  refine sw_seq ?_
  refine sw_seq ?_
  refine sw_region ?_
  refine r_move (k := ?_)
  refine r_len (k := ?_)
  refine r_lss (k := ?_)
  refine sl_nil ?_
  refine sp_then ?_
  refine sw_cond rfl (fun h => ?_) (fun h => ?_)
  · have h := of_decide_eq_true h
    exact absurd h (by omega)
  refine sw_skip ?_
  refine sp_then ?_
  refine sw_seq ?_
  refine sw_region ?_
  refine r_alloc (by exact z121) (by exact rfl) (by exact rfl) fun b5 => ?_
  refine sl_nil ?_
  refine sp_then ?_
  refine sw_seq ?_
  refine sw_region ?_
  refine r_move (k := ?_)
  refine r_assign (k := ?_)
  refine sl_nil ?_
  refine sp_then ?_
  refine sw_seq ?_
  refine sw_seq ?_
  refine sw_region ?_
  refine r_load_fr (k := ?_)
  refine r_move (k := ?_)
  refine sl_nil ?_
  refine sp_then ?_
  refine sw_block ?_
  refine sw_loop (ι := { p : Nat × BS // p.1 ≤ 5 ∧ p.2.ok ∧ p.2.xs = s.xs.drop (poff p.1) })
    (fun p => [(2, .pointer (some ⟨b2, 0, none⟩)), (3, p.1.2.v), (5, .pointer (some ⟨b5, 0, none⟩)), (14, .agg #[vi 1, vi 2, vi 2, vi 4, vi 8]), (15, vi (p.1.1 : Int))]) (fun p => [.box b5 (pcells s.xs p.1.1) 121, .box b2 PtrV.none.cs 27]) (fun p => [p.1.2.res, GW]) (fun _ => []) (fun p => 5 - p.1.1) ⟨(0, s), by simp, hok, by simp [poff]⟩ ?_ fun i => ?_
  · exact Ent.mk' (by repeat' (first | trivial | exact rfl | apply And.intro)) (by repeat' (first | trivial | exact .head _ | apply And.intro | apply List.Mem.tail))
  obtain ⟨⟨i, s'⟩, hi, hok', hx⟩ := i
  dsimp only at hi hok' hx ⊢
  have hsl : s'.xs.length = s.xs.length - poff i := by rw [hx]; simp
  refine sw_seq ?_
  refine sw_region ?_
  refine r_lss (k := ?_)
  refine sl_nil ?_
  refine sp_then ?_
  refine sw_seq ?_
  refine sw_cond rfl (fun h => ?_) (fun h => ?_)
  · have h := of_decide_eq_true h
    have hc : i = 0 ∨ i = 1 ∨ i = 2 ∨ i = 3 ∨ i = 4 := by omega
    refine sw_skip ?_
    refine sp_then ?_
    refine sw_seq ?_
    refine sw_block ?_
    refine sw_seq ?_
    refine sw_region ?_
    refine r_move (k := ?_)
    rcases hc with rfl | rfl | rfl | rfl | rfl
    all_goals simp only [poff] at hsl hx
    all_goals refine r_index (by exact ta rfl) (by exact tz rfl) (by exact rfl) (by exact rfl) (by omega) (by omega) (by exact Int.toNat_natCast _) (by exact rfl) (by exact rfl) ?_
    focus
      refine r_assign (k := ?_)
      refine r_assign (k := ?_)
      refine sl_nil ?_
      refine sp_then ?_
      refine sw_region ?_
      refine r_move (k := ?_)
      refine r_move (k := ?_)
      refine r_move (k := ?_)
    rotate_left 1
    focus
      refine r_assign (k := ?_)
      refine r_assign (k := ?_)
      refine sl_nil ?_
      refine sp_then ?_
      refine sw_region ?_
      refine r_move (k := ?_)
      refine r_move (k := ?_)
      refine r_move (k := ?_)
    rotate_left 1
    focus
      refine r_assign (k := ?_)
      refine r_assign (k := ?_)
      refine sl_nil ?_
      refine sp_then ?_
      refine sw_region ?_
      refine r_move (k := ?_)
      refine r_move (k := ?_)
      refine r_move (k := ?_)
    rotate_left 1
    focus
      refine r_assign (k := ?_)
      refine r_assign (k := ?_)
      refine sl_nil ?_
      refine sp_then ?_
      refine sw_region ?_
      refine r_move (k := ?_)
      refine r_move (k := ?_)
      refine r_move (k := ?_)
    rotate_left 1
    focus
      refine r_assign (k := ?_)
      refine r_assign (k := ?_)
      refine sl_nil ?_
      refine sp_then ?_
      refine sw_region ?_
      refine r_move (k := ?_)
      refine r_move (k := ?_)
      refine r_move (k := ?_)
    rotate_left 1
    · refine r_callF (c_take GW s' hok' 1 (by decide) (by decide) (by omega)) (by exact rfl) (by exact rfl) (by exact rfl) (by simp) (by exact rfl) ?_
      rintro _ _ ⟨r, rfl, hr, hxr, rfl⟩
      refine r_move (k := ?_)
      refine r_ext (k := ?_)
      refine r_ext (k := ?_)
      refine r_ext (k := ?_)
      refine r_idx_arr (k := ?_)
      refine r_store1 (k := ?_)
      refine r_assign (k := ?_)
      refine sl_nil ?_
      refine sp_block ?_
      refine sp_then ?_
      refine sw_region ?_
      refine r_add64 (k := ?_)
      refine r_move (k := ?_)
      refine sl_nil ?_
      refine sp_eqB (B' := [.box b5 (pcells s.xs 1) 121, .box b2 PtrV.none.cs 27]) (by rw [hx]; rfl) ?_
      refine sp_loop (ι := { p : Nat × BS // p.1 ≤ 5 ∧ p.2.ok ∧ p.2.xs = s.xs.drop (poff p.1) }) ⟨(1, r), by simp, hr, by rw [hxr, hx]; simp [poff]⟩ ?_ ?_
      · dsimp only; omega
      · exact Ent.mk' (by repeat' (first | trivial | exact rfl | apply And.intro)) (by repeat' (first | trivial | exact .head _ | apply And.intro | apply List.Mem.tail))
    · refine r_callF (c_take GW s' hok' 2 (by decide) (by decide) (by omega)) (by exact rfl) (by exact rfl) (by exact rfl) (by simp) (by exact rfl) ?_
      rintro _ _ ⟨r, rfl, hr, hxr, rfl⟩
      refine r_move (k := ?_)
      refine r_ext (k := ?_)
      refine r_ext (k := ?_)
      refine r_ext (k := ?_)
      refine r_idx_arr (k := ?_)
      refine r_store1 (k := ?_)
      refine r_assign (k := ?_)
      refine sl_nil ?_
      refine sp_block ?_
      refine sp_then ?_
      refine sw_region ?_
      refine r_add64 (k := ?_)
      refine r_move (k := ?_)
      refine sl_nil ?_
      refine sp_eqB (B' := [.box b5 (pcells s.xs 2) 121, .box b2 PtrV.none.cs 27]) (by rw [hx]; rfl) ?_
      refine sp_loop (ι := { p : Nat × BS // p.1 ≤ 5 ∧ p.2.ok ∧ p.2.xs = s.xs.drop (poff p.1) }) ⟨(2, r), by simp, hr, by rw [hxr, hx]; simp [poff]⟩ ?_ ?_
      · dsimp only; omega
      · exact Ent.mk' (by repeat' (first | trivial | exact rfl | apply And.intro)) (by repeat' (first | trivial | exact .head _ | apply And.intro | apply List.Mem.tail))
    · refine r_callF (c_take GW s' hok' 2 (by decide) (by decide) (by omega)) (by exact rfl) (by exact rfl) (by exact rfl) (by simp) (by exact rfl) ?_
      rintro _ _ ⟨r, rfl, hr, hxr, rfl⟩
      refine r_move (k := ?_)
      refine r_ext (k := ?_)
      refine r_ext (k := ?_)
      refine r_ext (k := ?_)
      refine r_idx_arr (k := ?_)
      refine r_store1 (k := ?_)
      refine r_assign (k := ?_)
      refine sl_nil ?_
      refine sp_block ?_
      refine sp_then ?_
      refine sw_region ?_
      refine r_add64 (k := ?_)
      refine r_move (k := ?_)
      refine sl_nil ?_
      refine sp_eqB (B' := [.box b5 (pcells s.xs 3) 121, .box b2 PtrV.none.cs 27]) (by rw [hx]; rfl) ?_
      refine sp_loop (ι := { p : Nat × BS // p.1 ≤ 5 ∧ p.2.ok ∧ p.2.xs = s.xs.drop (poff p.1) }) ⟨(3, r), by simp, hr, by rw [hxr, hx]; simp [poff]⟩ ?_ ?_
      · dsimp only; omega
      · exact Ent.mk' (by repeat' (first | trivial | exact rfl | apply And.intro)) (by repeat' (first | trivial | exact .head _ | apply And.intro | apply List.Mem.tail))
    · refine r_callF (c_take GW s' hok' 4 (by decide) (by decide) (by omega)) (by exact rfl) (by exact rfl) (by exact rfl) (by simp) (by exact rfl) ?_
      rintro _ _ ⟨r, rfl, hr, hxr, rfl⟩
      refine r_move (k := ?_)
      refine r_ext (k := ?_)
      refine r_ext (k := ?_)
      refine r_ext (k := ?_)
      refine r_idx_arr (k := ?_)
      refine r_store1 (k := ?_)
      refine r_assign (k := ?_)
      refine sl_nil ?_
      refine sp_block ?_
      refine sp_then ?_
      refine sw_region ?_
      refine r_add64 (k := ?_)
      refine r_move (k := ?_)
      refine sl_nil ?_
      refine sp_eqB (B' := [.box b5 (pcells s.xs 4) 121, .box b2 PtrV.none.cs 27]) (by rw [hx]; rfl) ?_
      refine sp_loop (ι := { p : Nat × BS // p.1 ≤ 5 ∧ p.2.ok ∧ p.2.xs = s.xs.drop (poff p.1) }) ⟨(4, r), by simp, hr, by rw [hxr, hx]; simp [poff]⟩ ?_ ?_
      · dsimp only; omega
      · exact Ent.mk' (by repeat' (first | trivial | exact rfl | apply And.intro)) (by repeat' (first | trivial | exact .head _ | apply And.intro | apply List.Mem.tail))
    · refine r_callF (c_take GW s' hok' 8 (by decide) (by decide) (by omega)) (by exact rfl) (by exact rfl) (by exact rfl) (by simp) (by exact rfl) ?_
      rintro _ _ ⟨r, rfl, hr, hxr, rfl⟩
      refine r_move (k := ?_)
      refine r_ext (k := ?_)
      refine r_ext (k := ?_)
      refine r_ext (k := ?_)
      refine r_idx_arr (k := ?_)
      refine r_store1 (k := ?_)
      refine r_assign (k := ?_)
      refine sl_nil ?_
      refine sp_block ?_
      refine sp_then ?_
      refine sw_region ?_
      refine r_add64 (k := ?_)
      refine r_move (k := ?_)
      refine sl_nil ?_
      refine sp_eqB (B' := [.box b5 (pcells s.xs 5) 121, .box b2 PtrV.none.cs 27]) (by rw [hx]; rfl) ?_
      refine sp_loop (ι := { p : Nat × BS // p.1 ≤ 5 ∧ p.2.ok ∧ p.2.xs = s.xs.drop (poff p.1) }) ⟨(5, r), by simp, hr, by rw [hxr, hx]; simp [poff]⟩ ?_ ?_
      · dsimp only; omega
      · exact Ent.mk' (by repeat' (first | trivial | exact rfl | apply And.intro)) (by repeat' (first | trivial | exact .head _ | apply And.intro | apply List.Mem.tail))
  · have h := of_decide_eq_false h
    obtain rfl : i = 5 := by omega
    refine sw_exit ?_
    refine sp_then_exit ?_
    refine sp_loop_exit ?_
    refine sp_block_exit ?_
    refine sp_then ?_
    refine sw_seq ?_
    refine sw_region ?_
    refine r_idx_arr (k := ?_)
    refine r_load_one (k := ?_)
    refine r_cv_64_8 (k := ?_)
    refine r_idx_arr (k := ?_)
    refine r_load_one (k := ?_)
    refine r_cv_64_16 (k := ?_)
    refine r_idx_arr (k := ?_)
    refine r_load_one (k := ?_)
    refine r_cv_64_16 (k := ?_)
    refine r_buildP [v16 (ptake s.xs).a0, v16 (ptake s.xs).a1] (parts := [(0, .tmp 34), (1, .tmp 37)]) (by exact rfl) (by kernel_rfl) (by exact rfl) ?_
    refine r_idx_arr (k := ?_)
    refine r_load_one (k := ?_)
    refine r_cv_64_32 (k := ?_)
    refine r_idx_arr (k := ?_)
    refine r_load_one (k := ?_)
    refine r_buildP (ptake s.xs).cs (parts := [(0, .tmp 31), (1, .tmp 38), (2, .tmp 41), (3, .tmp 43)]) (by exact rfl) (by kernel_rfl) (by exact rfl) ?_
    refine r_move (k := ?_)
    refine r_store_all (k := ?_)
    refine r_assign (k := ?_)
    refine r_assign (k := ?_)
    refine sl_nil ?_
    refine sp_then ?_
    refine sw_ret ?_
    refine sp_ret3 rfl rfl (.agg rfl (tz rfl) rfl (.tail _ (.head _))) (.tmp rfl) (.tmp rfl) rfl rfl ⟨rfl, s', rfl, hok', hx, rfl⟩ (by simp) rfl (by simp)
end Go.Proofs.YtjahiohlekdhoaaDoor
