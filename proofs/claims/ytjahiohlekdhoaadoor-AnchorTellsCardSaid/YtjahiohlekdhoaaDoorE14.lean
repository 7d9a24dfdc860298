/-
  The engine, part 14: guards that part a path; cuts; strings out of bytes; equality of aggregates; values built; rows grown by a number.
-/
import Derived.Test.YtjahiohlekdhoaaDoorE13
import Derived.Lib.AppendZerosOnto
import Derived.Laws.BytesArg
import Derived.Laws.Tables
import Derived.Stop.BytesEq
import Derived.Scope
import Derived.AtR
namespace Go.Proofs.YtjahiohlekdhoaaDoor
open Go

def evp (ρ : List (Nat × Value)) : List (Nat × Operand) → Option (List (Nat × Value))
  | [] => some []
  | (i, x) :: r => match ev ρ x, evp ρ r with
    | some v, some vs => some ((i, v) :: vs)
    | _, _ => none

theorem evp_map {ρ : List (Nat × Value)} {a : Operand → Value} (h : ∀ x v, ev ρ x = some v → a x = v) : ∀ {l : List (Nat × Operand)} {ps : List (Nat × Value)}, evp ρ l = some ps → l.map (fun p => (p.1, a p.2)) = ps
  | [], _, e => by cases e; rfl
  | (i, x) :: r, ps, e => by
    unfold evp at e
    split at e
    · rename_i v vs h1 h2
      cases e
      rw [List.map_cons, h x v h1, evp_map h h2]
    · cases e

/-! ### A labelled statement's scope -/
section
variable {P : Program} {b : Frame} {a : Act} {k : List Item} {cs : List Frame} {w : World} {Q : Post} {F : Fence} {n : Nat}
theorem stepR_scope {c : Code} : step P (lone (b.atR a (.code (.scope c) :: k)) cs w) = .next (lone (b.atR a (.code c :: .inScope c :: k)) cs w) :=
  step_lone_go (by simp [stepG, stepG.exec, Frame.atR])
theorem stepR_inScope {c : Code} : step P (lone (b.atR a (.inScope c :: k)) cs w) = .next (lone (b.atR a k) cs w) :=
  step_lone_go (by simp [stepG, stepG.exec, Frame.atR])
theorem wpIn_scope {c : Code} (h : c.wpIn F n P (Exit.noGoto Q) a w) : (Code.scope c).wpIn F n P Q a w := by
  intro b k cs hro hb hr
  have h0 : (lone (b.atR a (.code (.scope c) :: k)) cs w).fenced P F := fenced_calm hb hr rfl
  obtain ⟨e, a₁, w₁, hq, harr⟩ := h b (.inScope c :: k) cs hro hb hr
  cases e with
  | normal => exact ⟨.normal, a₁, w₁, hq, .head h0 stepR_scope (StepsIn.trans harr (.one (fenced_calm hb hr rfl) stepR_inScope))⟩
  | exit id' =>
    have hx : exitTo id' (.inScope c :: k) = exitTo id' k := by simp [exitTo]
    exact ⟨.exit id', a₁, w₁, hq, fun k' hk => .head h0 stepR_scope (harr.1 k' (by rw [hx]; exact hk)),
      fun hr' hk => let ⟨k₁, h1, h2⟩ := harr.2 hr' (by rw [hx]; exact hk); ⟨k₁, h1, .head h0 stepR_scope h2⟩⟩
  | goto l => exact hq.elim
  | ret => exact ⟨_, a₁, w₁, hq, .of_steps (.one h0 stepR_scope) harr⟩
  | panic ch => exact ⟨_, a₁, w₁, hq, .of_steps (.one h0 stepR_scope) harr⟩
  | outgrown => exact ⟨_, a₁, w₁, hq, .of_steps (.one h0 stepR_scope) harr⟩
end
section
variable {c : Ctx} {ρ : List (Nat × Value)} {B : List Own} {Φ : List Res} {Ψ : List JR} {Q : Post}
theorem sw_scope {x : Code} (h : SW c ρ B Φ Ψ x (Exit.noGoto Q)) : SW c ρ B Φ Ψ (.scope x) Q := fun a w hs => wpIn_scope (h a w hs)
theorem sp_ng (h : SP c ρ B Φ Ψ .normal Q) : SP c ρ B Φ Ψ .normal (Exit.noGoto Q) := fun a w hs => h a w hs
theorem sp_ng_ret (h : SP c ρ B Φ Ψ .ret Q) : SP c ρ B Φ Ψ .ret (Exit.noGoto Q) := fun a w hs => h a w hs
theorem sp_ng_exit {i : Nat} (h : SP c ρ B Φ Ψ (.exit i) Q) : SP c ρ B Φ Ψ (.exit i) (Exit.noGoto Q) := fun a w hs => h a w hs
end

/-- The bytes as a string. -/
def strB (xs : List UInt8) : ByteArray := ⟨xs.toArray⟩
theorem strB_beq (xs ys : List UInt8) : ((strB xs).toList == (strB ys).toList) = (xs == ys) := by
  rw [← beq_toListBytes]
  show (xs.toArray == ys.toArray) = (xs == ys)
  simp

section
variable {c : Ctx} {ρ : List (Nat × Value)} {B B' B0 Br Bp : List Own} {Φ Φ' Φp : List Res} {Ψ : List JR} {ops : Array Oper} {rest : List Oper} {Q : Post} {d ty t : Nat} {ps : String} {af : Array Edge} {x y z : Operand} {v u : Value} {xt yt : TypeId} {m n : Int} {kk : IntKind} {e sz by' : Nat} {ba : Option Addr} {cs : List Value} {ex : Exit}

/-- A guard that is not decided parts the path. -/
theorem g_part {o : Op} {dst : Option Tmp} {j g : Nat} {og : Oper} {want b : Bool} (_ho : ops[j]? = some og := by exact rfl) (_hd : og.dst = some g := by exact rfl) (hx : lk ρ g = some (.bool b) := by exact rfl)
    (h1 : b = true → SL c ((g, .bool true) :: ρ) B Φ Ψ ops (⟨dst, o, ty, ps, af, some (j, want)⟩ :: rest) Q) (h2 : b = false → SL c ((g, .bool false) :: ρ) B Φ Ψ ops (⟨dst, o, ty, ps, af, some (j, want)⟩ :: rest) Q) :
    SL c ρ B Φ Ψ ops (⟨dst, o, ty, ps, af, some (j, want)⟩ :: rest) Q := b_part hx h1 h2

theorem gd_yes {o : Op} {dst : Option Tmp} {j g : Nat} {og : Oper} {want b : Bool} (ho : ops[j]? = some og := by exact rfl) (hd : og.dst = some g := by exact rfl) (hx : lk ρ g = some (.bool b) := by exact rfl) (hw : b = want := by with_reducible first | rfl | exact Bool.not_true | exact Bool.not_false | exact Option.isNone_none | exact Option.isNone_some) (hb : Nat.blt g c.nt = true := by exact rfl)
    (k : SL c ρ B Φ Ψ ops (⟨dst, o, ty, ps, af, none⟩ :: rest) Q) : SL c ρ B Φ Ψ ops (⟨dst, o, ty, ps, af, some (j, want)⟩ :: rest) Q := g_yes ho hd (hw ▸ hx) hb k
theorem gd_no {o : Op} {d j g : Nat} {og : Oper} {want b : Bool} (ho : ops[j]? = some og := by exact rfl) (hd : og.dst = some g := by exact rfl) (hx : lk ρ g = some (.bool b) := by exact rfl) (hw : (!want) = b := by with_reducible first | rfl | exact Bool.not_true | exact Bool.not_false | exact Option.isNone_none | exact Option.isNone_some) (hb : Nat.blt g c.nt = true := by exact rfl) (hb' : Nat.blt d c.nt = true := by exact rfl)
    (k : SL c ((d, undef) :: ρ) B Φ Ψ ops rest Q) : SL c ρ B Φ Ψ ops (⟨some d, o, ty, ps, af, some (j, want)⟩ :: rest) Q := g_no ho hd (hw.symm ▸ hx) hb (by cases want <;> rfl) hb' k
theorem gd_no' {o : Op} {j g : Nat} {og : Oper} {want b : Bool} (ho : ops[j]? = some og := by exact rfl) (hd : og.dst = some g := by exact rfl) (hx : lk ρ g = some (.bool b) := by exact rfl) (hw : (!want) = b := by with_reducible first | rfl | exact Bool.not_true | exact Bool.not_false | exact Option.isNone_none | exact Option.isNone_some) (hb : Nat.blt g c.nt = true := by exact rfl)
    (k : SL c ρ B Φ Ψ ops rest Q) : SL c ρ B Φ Ψ ops (⟨none, o, ty, ps, af, some (j, want)⟩ :: rest) Q := g_no' ho hd (hw.symm ▸ hx) hb (by cases want <;> rfl) k
theorem yielded_undef {a : Act} {w : World} (hs : St c ρ B Φ Ψ a w) {j g : Nat} {o : Oper} (ho : ops[j]? = some o) (hd : o.dst = some g) (hx : lk ρ g = some undef) (hb : Nat.blt g c.nt = true) : yielded ops a.tmps j = none := by
  have h1 := hs.reg g _ hx
  have hlt : g < a.tmps.size := by rw [hs.nt]; simpa [Nat.blt_eq] using hb
  have h2 : a.tmps[g]? = some undef := by
    rw [Array.getD_eq_getD_getElem?] at h1
    rw [Array.getElem?_eq_getElem hlt] at h1 ⊢
    simpa using h1
  simp [yielded, ho, hd, h2, undef]
theorem gd_un {o : Op} {d j g : Nat} {og : Oper} {want : Bool} (ho : ops[j]? = some og := by exact rfl) (hd : og.dst = some g := by exact rfl) (hx : lk ρ g = some undef := by exact rfl) (hb : Nat.blt g c.nt = true := by exact rfl) (hb' : Nat.blt d c.nt = true := by exact rfl)
    (k : SL c ((d, undef) :: ρ) B Φ Ψ ops rest Q) : SL c ρ B Φ Ψ ops (⟨some d, o, ty, ps, af, some (j, want)⟩ :: rest) Q := fun a w hs => by
  have h := k _ w (hs.put hb' undef)
  have hy := yielded_undef (ops := ops) hs ho hd hx hb
  have hw : ((none : Option Bool) == some want) = false := rfl
  simp only [wpListIn, Region.wanted, hy, hw, Bool.false_eq_true, if_false]
  exact ⟨fun _ _ => trivial, h⟩
theorem swd_t {b : Bool} {X Y : Code} (hx : ev ρ x = some (.bool b) := by exact rfl) (hw : b = true := by with_reducible first | rfl | exact Bool.not_true | exact Bool.not_false | exact Option.isNone_none | exact Option.isNone_some) (h : SW c ρ B Φ Ψ X Q) : SW c ρ B Φ Ψ (.cond x X Y) Q := sw_cond_t (hw ▸ hx) h
theorem swd_f {b : Bool} {X Y : Code} (hx : ev ρ x = some (.bool b) := by exact rfl) (hw : b = false := by with_reducible first | rfl | exact Bool.not_true | exact Bool.not_false | exact Option.isNone_none | exact Option.isNone_some) (h : SW c ρ B Φ Ψ Y Q) : SW c ρ B Φ Ψ (.cond x X Y) Q := sw_cond_f (hw ▸ hx) h
theorem rd_pick_t {b : Bool} (hx : ev ρ x = some (.bool b) := by exact rfl) (hw : b = true := by with_reducible first | rfl | exact Bool.not_true | exact Bool.not_false | exact Option.isNone_none | exact Option.isNone_some) (hy : ev ρ y = some v := by exact rfl) (hb : Nat.blt d c.nt = true := by exact rfl) (k : SL c ((d, v) :: ρ) B Φ Ψ ops rest Q) : SL c ρ B Φ Ψ ops (⟨some d, .pick x y z, ty, ps, af, none⟩ :: rest) Q := r_pick_t (hw ▸ hx) hy hb k
theorem rd_pick_f {b : Bool} (hx : ev ρ x = some (.bool b) := by exact rfl) (hw : b = false := by with_reducible first | rfl | exact Bool.not_true | exact Bool.not_false | exact Option.isNone_none | exact Option.isNone_some) (hy : ev ρ z = some v := by exact rfl) (hb : Nat.blt d c.nt = true := by exact rfl) (k : SL c ((d, v) :: ρ) B Φ Ψ ops rest Q) : SL c ρ B Φ Ψ ops (⟨some d, .pick x y z, ty, ps, af, none⟩ :: rest) Q := r_pick_f (hw ▸ hx) hy hb k

/-- Code whose ends are one state. -/
def CutQ (c : Ctx) (ρ : List (Nat × Value)) (B : List Own) (Φ : List Res) (Ψ : List JR) : Post
  | .normal, a, w => St c ρ B Φ Ψ a w
  | _, _, _ => False
theorem sw_cut (ρ' : List (Nat × Value)) (B' : List Own) (Φ' : List Res) (Ψ' : List JR) {X Y : Code} (h : SW c ρ B Φ Ψ X (CutQ c ρ' B' Φ' Ψ')) (k : SW c ρ' B' Φ' Ψ' Y Q) : SW c ρ B Φ Ψ (.seq X Y) Q :=
  sw_seq fun a w hs => wpIn_mono (h a w hs) fun e a' w' q => by
    cases e with
    | normal => exact k a' w' q
    | _ => exact q.elim
theorem sp_cut {ρ' : List (Nat × Value)} (hρ : LkAll ρ ρ') (hΦ : PhAll Φ Φ') : SP c ρ B Φ Ψ .normal (CutQ c ρ' B Φ' Ψ) := fun a w hs => Ent.mk' (c := c) (B := B) (Ψ := Ψ) hρ hΦ a w hs

theorem sp_re {t : Nat} {v v' : Value} (hx : lk ρ t = some v) (e : v = v') (k : SP c ((t, v') :: ρ) B Φ Ψ ex Q) : SP c ρ B Φ Ψ ex Q := fun a w hs => k a w ⟨hs.nt, fun s u hu => by
  rw [lk_cons] at hu
  split at hu
  · rename_i e'; subst e'; cases hu; rw [← e]; exact hs.reg _ _ hx
  · exact hs.reg s u hu, hs.dfr, hs.mem⟩
theorem sp_cutB {ρ' : List (Nat × Value)} (hρ : LkAll ρ ρ') (hΦ : PhAll Φ Φ') (hB : B = B') : SP c ρ B Φ Ψ .normal (CutQ c ρ' B' Φ' Ψ) := hB ▸ sp_cut hρ hΦ

/-- 'string(s)' of bytes. -/
theorem r_str {s : BS} {st dt : TypeId} (hs' : tSl c.P st = some (e, 1, 1)) (he : tInt c.P e = some .u8) (hd : c.P.underlying dt = some .string) (hx : ev ρ x = some s.v) (hm : s.res ∈ Φ) (hb : Nat.blt d c.nt = true) (k : SL c ((d, .string (strB s.xs)) :: ρ) B Φ Ψ ops rest Q) :
    SL c ρ B Φ Ψ ops (⟨some d, .convert st dt x, ty, ps, af, none⟩ :: rest) Q :=
  r_val rfl (fun _ => by simp) rfl hb (fun a w hs => by
    obtain ⟨V, U, M, ms⟩ := hs.mem
    obtain ⟨hu, _⟩ := tSl_inv hs'
    have hk : c.P.underlying e = some (.int .u8) := by
      unfold tInt at he
      split at he
      · rename_i h; cases he; exact h
      · cases he
    have hmem := ms.phi _ hm
    have key : (convert st dt s.v).run c.P w = .ok (.string (strB s.xs)) w := by
      obtain ⟨sb, scap, xs⟩ := s
      cases sb with
      | none =>
        have hn : xs = [] := by
          cases xs with
          | nil => rfl
          | cons x r => obtain ⟨ad, h, _⟩ := hmem 0 (v8 x) rfl; cases h
        subst hn
        exact run_convert_bytes_nil w st e hu hk 0 scap dt hd
      | some a =>
        have hl : (loadCells a xs.length).run c.P w = .ok ((xs.map fun b => (b.toNat : Int)).map (Value.int .u8)).toArray w := by
          have := run_loadCells_list (P := c.P) w a (bv xs) (fun j v hj => by
            obtain ⟨a', ha, _, hc⟩ := hmem j v hj
            cases ha; exact hc)
          rw [bv_len] at this
          rw [this]
          simp [bv, Function.comp_def]
        show (convert st dt (.slice (some a) xs.length scap)).run c.P w = _
        rw [run_convert_bytes_string w st dt e _ xs.length scap hu hk hd, run_bytesToString w a xs.length scap _ hl, foldl_push_bytes]
        simp [strB, ByteArray.empty, ByteArray.emptyWithCapacity, Function.comp_def]
        rfl
    simp only [execOp, hs.ev hx, Sem.run_bind, key, Result.andThen_ok, Sem.run_pure]) k
theorem r_streq {xs ys : List UInt8} (hx : ev ρ x = some (.string (strB xs))) (hy : ev ρ y = some (.string (strB ys))) (hb : Nat.blt d c.nt = true) (k : SL c ((d, .bool (xs == ys)) :: ρ) B Φ Ψ ops rest Q) :
    SL c ρ B Φ Ψ ops (⟨some d, .binOp .eql xt x y yt, ty, ps, af, none⟩ :: rest) Q := r_bin hx hy hb (fun w => by
      have := strB_beq xs ys
      simp [eqGuard, binOp, Op.stringOp, this]) k

/-- '==' of structs, of arrays. -/
theorem r_eqagg {xs ys : Array Value} {r : Bool} (hx : ev ρ x = some (.agg xs)) (hy : ev ρ y = some (.agg ys)) (hg : c.P.eqGuardType c.P.depth xt = false) (heq : ∀ w, (Op.equalIn 10000 xt (.agg xs) (.agg ys)).run c.P w = .ok r w) (hb : Nat.blt d c.nt = true)
    (k : SL c ((d, .bool r) :: ρ) B Φ Ψ ops rest Q) : SL c ρ B Φ Ψ ops (⟨some d, .binOp .eql xt x y yt, ty, ps, af, none⟩ :: rest) Q := r_bin hx hy hb (fun w => by
      rw [Sem.run_bind, run_eqGuard_agg w .eql xt x y xs ys hg, Result.andThen_ok, run_eql_struct, heq, Result.andThen_ok]) k
theorem r_neagg {xs ys : Array Value} {r : Bool} (hx : ev ρ x = some (.agg xs)) (hy : ev ρ y = some (.agg ys)) (hg : c.P.eqGuardType c.P.depth xt = false) (heq : ∀ w, (Op.equalIn 10000 xt (.agg xs) (.agg ys)).run c.P w = .ok r w) (hb : Nat.blt d c.nt = true)
    (k : SL c ((d, .bool (!r)) :: ρ) B Φ Ψ ops rest Q) : SL c ρ B Φ Ψ ops (⟨some d, .binOp .neq xt x y yt, ty, ps, af, none⟩ :: rest) Q := r_bin hx hy hb (fun w => by
      rw [Sem.run_bind, run_eqGuard_agg w .neq xt x y xs ys hg, Result.andThen_ok, run_neq_struct, heq, Result.andThen_ok]) k

/-- A value built of parts. -/
theorem r_buildP {parts : List (Nat × Operand)} {ps' : List (Nat × Value)} (cells : List Value) (hx : evp ρ parts = some ps') (h : c.P.built t ps' = some cells.toArray) (hb : Nat.blt d c.nt = true) (k : SL c ((d, .agg cells.toArray) :: ρ) B Φ Ψ ops rest Q) :
    SL c ρ B Φ Ψ ops (⟨some d, .build t parts.toArray, ty, ps, af, none⟩ :: rest) Q :=
  r_build (ps' := ps') (_zc := #[]) (fun a ha => by
    have := evp_map ha hx
    simpa using this) (fun w => run_build w t _ _ (by simpa using h)) hb k

/-- 'a[i]' of an array's value. -/
theorem r_index {i len s : Nat} (ht : tAr c.P t = some (len, e, 1)) (he : tSz c.P e = some (false, s)) (hx : ev ρ x = some (.agg cs.toArray)) (hy : ev ρ y = some (.int kk m)) (h0 : 0 ≤ m) (h1 : m < len) (hi : m.toNat = i) (hv : cs[i]? = some v) (hb : Nat.blt d c.nt = true) (k : SL c ((d, v) :: ρ) B Φ Ψ ops rest Q) :
    SL c ρ B Φ Ψ ops (⟨some d, .index t x y, ty, ps, af, none⟩ :: rest) Q :=
  r_val rfl (fun _ => by simp) rfl hb (fun a w hs => by
    obtain ⟨hu, ii, hii, hsz⟩ := tAr_inv ht
    subst hi
    have hv' : cs.toArray[m.toNat]? = some v := by simpa using hv
    simp [execOp, hs.ev hx, hs.ev hy, Instr.index, asIntOf, run_underlying hu, h0, h1, sizeOf, typeInfo, hii, hsz, part, run_isAgg he, hv]) k

/-- 'append(nil, make([]T, n)...)'. -/
theorem r_growNil {nn : Nat} {at1 at2 : TypeId} {z0 : Value} {kn : IntKind} (ht : tSl c.P at1 = some (e, 1, 1)) (htn : tInt c.P at2 = some kn) (hz : tZ c.P e = some z0) (hx : ev ρ x = some (.slice none 0 0)) (hy : ev ρ y = some (.int kk (nn : Int))) (h0 : 0 < nn) (hn : nn ≤ 140737488355328) (hz1 : z0.cells.size = 1) (hb : Nat.blt d c.nt = true)
    (k : ∀ (v : Value) (zs : List Value), zs.length = nn → SL c ((d, v) :: ρ) (.row v nn zs e 1 :: B) Φ Ψ ops rest Q) :
    SL c ρ B Φ Ψ ops (⟨some d, .call ⟨.builtin .append, #[x, y], #[at1, at2]⟩, ty, ps, af, none⟩ :: rest) Q :=
  sl_plain rfl fun a w hs K hK => by
    obtain ⟨hu, ii, hii, hsz, hby⟩ := tSl_inv ht
    have hz' : ii.zero = some z0 := by unfold tZ at hz; simpa [hii] using hz
    have hk : c.P.underlying at2 = some (.int kn) := by
      unfold tInt at htn
      split at htn
      · rename_i h; cases htn; exact h
      · cases htn
    have hr := Lib.run_append_nil_zeros (P := c.P) w at1 at2 ty e ii z0 kk kn hu hk hii hz' nn h0 (by omega) (by omega) (by rw [hby]; omega)
    have hlen : ∀ q, (Builtin.zeroCells z0.cells q).size = q := fun q => by simp [Builtin.zeroCells, hz1]
    have hge := grownCap_ge w nn 0 e
    have hle := grownCap_le_maxLen w nn 0 e (by unfold maxLen; omega)
    generalize grownCap w nn 0 e = G at *
    obtain ⟨cur, hcur⟩ : ∃ cur, cur = Builtin.zeroCells z0.cells nn ++ Builtin.zeroCells z0.cells (G - nn) := ⟨_, rfl⟩
    have hcs : cur.size = G := by rw [hcur]; simp [hlen]; omega
    rw [← hcur] at hr
    have hown : ((w.drew.alloc (.cells cur e)).ownsRow 0 e 1 (.slice (some ⟨w.heap.size, 0, none⟩) nn G) nn (cur.toList.take nn)) := by
      refine ⟨by simp [hcs]; omega, .inr ⟨w.heap.size, G, cur, rfl, Nat.zero_le _, ?_, hge, hle, by omega, by simp⟩⟩
      exact heap_alloc_new w.drew _
    refine op_value (v := .slice (some ⟨w.heap.size, 0, none⟩) nn G) (w' := w.drew.alloc (.cells cur e)) (fun _ => by simp) ?_ (hK _ _ (k (.slice (some ⟨w.heap.size, 0, none⟩) nn G) (cur.toList.take nn) (by simp [hcs]; omega) _ _ ?_))
    · simp [execOp, resolve, invoke, builtin, hs.ev hx, hs.ev hy, hr]
    · obtain ⟨V, U, M, m⟩ := hs.mem
      have hg : w.grownBy (w.drew.alloc (.cells cur e)) none := ⟨rfl, rfl, rfl, by rw [World.size_alloc]; exact Nat.le_succ _, fun k hk _ => heap_alloc_old w.drew _ k hk⟩
      obtain ⟨V', U', m'⟩ := m.newRow hown (fun b h => by simp [Value.ownBlock] at h; omega) hg
      exact (hs.put hb _).mem' rfl m'

/-- 's[:k]' of a row of one's own: the row is shorter. -/
theorem r_row_cut {nn kq : Nat} {xs : List Value} (ht : tSl c.P t = some (e, sz, by')) (hx : ev ρ x = some v) (hy : ev ρ y = some (.int kk (kq : Int))) (hk : kq ≤ nn) (hnn : 0 < nn) (hb : Nat.blt d c.nt = true)
    (k : ∀ v', v'.cells = #[v'] → v'.oneCell' = true → SL c ((d, v') :: ρ) (.row v' kq (xs.take (kq * sz)) e sz :: B) Φ Ψ ops rest Q) :
    SL c ρ (.row v nn xs e sz :: B) Φ Ψ ops (⟨some d, .slice t x none (some y) none, ty, ps, af, none⟩ :: rest) Q :=
  sl_plain rfl fun a w hs K hK => by
    obtain ⟨hu, ii, hii, hsz, hby⟩ := tSl_inv ht
    obtain ⟨V, U, M, m⟩ := hs.mem
    have hown : w.ownsRow 0 e sz v nn xs := m.sep.holds _ (.head _)
    obtain ⟨hlen, hh⟩ := hown
    rcases hh with ⟨_, h0⟩ | ⟨g, cap, cur, rfl, hg0, hg, hnc, hcm, hcs, htake⟩
    · omega
    · have hcap : kq ≤ cap := by omega
      refine op_value (v := .slice (some ⟨g, 0, none⟩) kq cap) (w' := w) (fun _ => by simp) ?_ (hK _ _ (k (.slice (some ⟨g, 0, none⟩) kq cap) rfl rfl _ _ ?_))
      · simp [execOp, hs.ev hx, hs.ev hy, Instr.sliceAt, Instr.slice, run_underlying hu, Instr.sliceBounds, Instr.sliceBound, asIntOf, sizeOf, typeInfo, hii, hcap, add_zero]
      · refine (hs.put hb _).mem' rfl (m.turn .hd rfl ?_ rfl fun _ _ => rfl)
        refine ⟨?_, .inr ⟨g, cap, cur, rfl, hg0, hg, hcap, hcm, hcs, ?_⟩⟩
        · rw [List.length_take, hlen]
          have := Nat.mul_le_mul_right sz hk
          omega
        · rw [← htake, List.take_take]
          have := Nat.mul_le_mul_right sz hk
          congr 1; omega
end
end Go.Proofs.YtjahiohlekdhoaaDoor
