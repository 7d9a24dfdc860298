/-
  From a contract to a row: what an argument that was read looks like; what a contract without handed blocks says of a call; what a row asks behind it.
-/
import Derived.Test.YtjahiohlekdhoaaDoorE15
import Derived.Test.YtjahiohlekdhoaaDoorProg
import Derived.WalkKit
import Derived.ProofKit
import Derived.OpenShut
import Derived.Deep.DeepHandedRow
import Derived.Lib.LaidTab
namespace Go.Proofs.YtjahiohlekdhoaaDoor
open Go Go.ChangeShapes Go.WideShapes Go.RowKit

/-- Nothing is avoided. -/
def V0 : Av := Or' NoAv (blks [])
theorem not_V0 (b : Nat) : ¬ V0 b := by
  rintro (h | ⟨o, ho, _⟩)
  · exact h
  · cases ho

/-- What a contract without handed blocks says of a call from any world. -/
theorem Ctr.below {P : Program} {G : Res} {f : FuncId} {args : List Value} {Φ : List Res} {v : Value} (h : Ctr P G f args [] Φ (ret1 v)) {w : World} (hΦ : ∀ φ ∈ Φ, φ.p V0 w) (hG : G.p V0 w) :
    Calls P f args.toArray w fun e w' => e = .returned v ∧ RowKit.Below w.heap.size w w' := by
  refine (h.calls w NoAv (fun _ h => h.elim) ⟨fun o ho => (by cases ho), .nil⟩ (fun b hb => (by obtain ⟨o, ho, _⟩ := hb; cases ho)) hΦ hG).mono ?_
  rintro e w' ⟨v', B', Φ', rfl, ⟨rfl, _, _⟩, _, _, _, _, ⟨hsz, hio⟩, hk⟩
  exact ⟨rfl, hio.1, hio.2.2, hio.2.1, hsz, fun k hk' => hk k hk' fun ⟨o, ho, _⟩ => (by cases ho)⟩

/-! ### Readings opened -/
/-- What is read at this type are cells of this shape, of which this holds. -/
def Rd (P : Program) (t : TypeId) {α : Type} (cs : α → List Value) (R : α → World → Prop) : Prop :=
  ∀ {H : Type} {enc : TypeId × Value → H} {w : World} {base : Nat} {spare : Nat → Bool} {held : Bool} {fuel : Nat} {cells : List Value} {x : DataW H × List MemPlace},
    DataW.trod enc P w base spare held fuel t cells = some x → ∃ a, cells = cs a ∧ R a w

section
variable {P : Program} {t e : TypeId}
theorem rd_bool (ht : P.underlying t = some .bool) : Rd P t (fun b : Bool => [vb b]) fun _ _ => True := by
  intro H enc w base spare held fuel cells x h
  obtain ⟨b, rfl, _⟩ := DataW.trod_bool ht h
  exact ⟨b, rfl, trivial⟩
theorem rd_u8 (ht : P.underlying t = some (.int .u8)) : Rd P t (fun b : UInt8 => [v8 b]) fun _ _ => True := by
  intro H enc w base spare held fuel cells x h
  obtain ⟨n, rfl, _, hw⟩ := DataW.trod_int ht h
  simp [Lit.wf, IntKind.min, IntKind.max, IntKind.signed, IntKind.bits] at hw
  refine ⟨UInt8.ofNat n.toNat, ?_, trivial⟩
  have : ((UInt8.ofNat n.toNat).toNat : Int) = n := by rw [UInt8.toNat_ofNat']; omega
  show [Value.int .u8 n] = [Value.int .u8 _]
  rw [this]
theorem rd_u16 (ht : P.underlying t = some (.int .u16)) : Rd P t (fun b : UInt16 => [v16 b]) fun _ _ => True := by
  intro H enc w base spare held fuel cells x h
  obtain ⟨n, rfl, _, hw⟩ := DataW.trod_int ht h
  simp [Lit.wf, IntKind.min, IntKind.max, IntKind.signed, IntKind.bits] at hw
  refine ⟨UInt16.ofNat n.toNat, ?_, trivial⟩
  have : ((UInt16.ofNat n.toNat).toNat : Int) = n := by rw [UInt16.toNat_ofNat']; omega
  show [Value.int .u16 n] = [Value.int .u16 _]
  rw [this]
theorem rd_u32 (ht : P.underlying t = some (.int .u32)) : Rd P t (fun b : UInt32 => [v32 b]) fun _ _ => True := by
  intro H enc w base spare held fuel cells x h
  obtain ⟨n, rfl, _, hw⟩ := DataW.trod_int ht h
  simp [Lit.wf, IntKind.min, IntKind.max, IntKind.signed, IntKind.bits] at hw
  refine ⟨UInt32.ofNat n.toNat, ?_, trivial⟩
  have : ((UInt32.ofNat n.toNat).toNat : Int) = n := by rw [UInt32.toNat_ofNat']; omega
  show [Value.int .u32 n] = [Value.int .u32 _]
  rw [this]
theorem rd_u64 (ht : P.underlying t = some (.int .u64)) : Rd P t (fun b : UInt64 => [v64 b]) fun _ _ => True := by
  intro H enc w base spare held fuel cells x h
  obtain ⟨n, rfl, _, hw⟩ := DataW.trod_int ht h
  simp [Lit.wf, IntKind.min, IntKind.max, IntKind.signed, IntKind.bits] at hw
  refine ⟨UInt64.ofNat n.toNat, ?_, trivial⟩
  have : ((UInt64.ofNat n.toNat).toNat : Int) = n := by rw [UInt64.toNat_ofNat']; omega
  show [Value.int .u64 n] = [Value.int .u64 _]
  rw [this]
def i64ok (n : Int) : Prop := -9223372036854775808 ≤ n ∧ n ≤ 9223372036854775807
theorem rd_int (ht : P.underlying t = some (.int .i64)) : Rd P t (fun n : Int => [vi n]) fun n _ => i64ok n := by
  intro H enc w base spare held fuel cells x h
  obtain ⟨n, rfl, _, hw⟩ := DataW.trod_int ht h
  simp [Lit.wf, IntKind.min, IntKind.max, IntKind.signed, IntKind.bits] at hw
  exact ⟨n, rfl, by unfold i64ok; omega⟩

/-- A slice that was read. -/
structure Sl (α : Type) where
  ba : Option Addr
  cap : Nat
  xs : List α
def Sl.v {α : Type} (s : Sl α) : Value := .slice s.ba s.xs.length s.cap
def Sl.ok {α : Type} (s : Sl α) : Prop := s.xs.length ≤ s.cap ∧ s.cap ≤ maxLen
theorem Sl.len {α : Type} {s : Sl α} (h : s.ok) : s.xs.length ≤ maxLen := Nat.le_trans h.1 h.2

theorem cells?_some {w : World} {base : Nat} {a : Addr} {n : Nat} {cs : List Value} (h : w.cells? base a n = some cs) : cs.length = n ∧ ∀ i v, cs[i]? = some v → w.cell? (a.add i) = some v := by
  unfold World.cells? at h
  split at h
  · refine ⟨by simpa using mapM_some_length h, fun i v hv => ?_⟩
    have hl : cs.length = n := by simpa using mapM_some_length h
    have hi : i < n := by
      rcases Nat.lt_or_ge i cs.length with h' | h'
      · omega
      · rw [List.getElem?_eq_none h'] at hv; cases hv
    have := mapM_some_get h i i (by simp [hi])
    rw [this, hv]
  · cases h

theorem flat_cells {α : Type} {cs : α → List Value} {n : Nat} (hn : ∀ a, (cs a).length = n) (h0 : 0 < n) {w : World} {a : Addr} : ∀ (l : List α) (k : Nat), (∀ i x, l[i]? = some x → ∀ j v, (cs x)[j]? = some v → w.cell? (a.add ((k + i) * n + j)) = some v) →
    ∀ i v, (l.flatMap cs)[i]? = some v → w.cell? (a.add (k * n + i)) = some v
  | [], _, _, i, v, h => by simp at h
  | x :: l, k, hl, i, v, h => by
    rw [List.flatMap_cons] at h
    rcases Nat.lt_or_ge i n with hi | hi
    · rw [List.getElem?_append_left (by rw [hn]; exact hi)] at h
      exact hl 0 x rfl i v h
    · rw [List.getElem?_append_right (by rw [hn]; exact hi), hn] at h
      have := flat_cells hn h0 l (k + 1) (fun i y hy j u hu => by
        have := hl (i + 1) y hy j u hu
        rwa [show k + (i + 1) = k + 1 + i by omega] at this) (i - n) v h
      rwa [show (k + 1) * n + (i - n) = k * n + i by rw [Nat.succ_mul]; omega] at this

theorem rd_slice {α : Type} {cs : α → List Value} {R : α → World → Prop} {n : Nat} (ht : P.underlying t = some (.slice e)) (he : Rd P e cs R) (hn : ∀ a, (cs a).length = n) (hc : P.cellsOf e = n) (h0 : Nat.blt 0 n = true) :
    Rd P t (fun s : Sl α => [s.v]) fun s w => s.ok ∧ (Res.mem s.ba (s.xs.flatMap cs)).p V0 w ∧ ∀ a ∈ s.xs, R a w := by
  intro H enc w base spare held fuel cells x h
  have h0' : 0 < n := by simpa [Nat.blt_eq] using h0
  rcases DataW.trod_slice ht h with ⟨rfl, _⟩ | ⟨a, len, cap, elems, rest, m, _, rfl, _, _, hl, hcap, hel, hall, _, _⟩
  · exact ⟨⟨none, 0, []⟩, rfl, ⟨Nat.le_refl _, Nat.zero_le _⟩, fun i v h => by simp at h, fun a ha => by simp at ha⟩
  · have key : ∀ k, k ≤ len → ∃ xs : List α, xs.length = k ∧ (∀ i x, xs[i]? = some x → R x w ∧ ∀ j v, (cs x)[j]? = some v → w.cell? (a.add (i * n + j)) = some v) := by
      intro k
      induction k with
      | zero => exact fun _ => ⟨[], rfl, fun i x h => by simp at h⟩
      | succ k ih =>
        intro hk
        obtain ⟨xs, hxl, hxs⟩ := ih (by omega)
        have h1 := hall k (by omega)
        have h2 : ∃ y, elems[k]? = some y := ⟨elems[k]'(by omega), List.getElem?_eq_getElem (by omega)⟩
        obtain ⟨y, hy⟩ := h2
        rw [hy, Option.bind_eq_some_iff] at h1
        obtain ⟨cells, hcl, htr⟩ := h1
        obtain ⟨z, rfl, hz⟩ := he htr
        obtain ⟨_, hcs⟩ := cells?_some hcl
        refine ⟨xs ++ [z], by simp [hxl], fun i x hi => ?_⟩
        rcases Nat.lt_or_ge i k with h | h
        · rw [List.getElem?_append_left (by omega)] at hi
          exact hxs i x hi
        · rw [List.getElem?_append_right (by omega), hxl] at hi
          have hik : i = k := by
            rcases Nat.lt_or_ge (i - k) 1 with h' | h'
            · omega
            · rw [List.getElem?_eq_none (by simpa using h')] at hi; cases hi
          subst hik
          simp at hi
          subst hi
          refine ⟨hz, fun j v hv => ?_⟩
          have := hcs j v hv
          rwa [add_add, hc] at this
    obtain ⟨xs, hxl, hxs⟩ := key len (Nat.le_refl _)
    refine ⟨⟨some a, cap, xs⟩, by simp [Sl.v, hxl], ⟨by rw [hxl]; exact hl, hcap⟩, fun i v hv => ?_, fun x hx => ?_⟩
    · refine ⟨a, rfl, not_V0 _, ?_⟩
      have := flat_cells hn h0' (w := w) (a := a) xs 0 (fun i x hx j u hu => by rw [Nat.zero_add]; exact (hxs i x hx).2 j u hu) i v hv
      simpa using this
    · obtain ⟨i, hi⟩ := List.mem_iff_getElem?.1 hx
      exact (hxs i x hi).1

/-- An array of things of one cell. -/
theorem rd_array1 {α : Type} {c : α → Value} {R : α → World → Prop} {n : Nat} (ht : P.underlying t = some (.array n e)) (he : Rd P e (fun a => [c a]) R) (hc : P.cellsOf e = 1) (hct : P.cellsOf t = n) :
    Rd P t (fun l : { l : List α // l.length = n } => l.1.map c) fun l w => ∀ a ∈ l.1, R a w := by
  intro H enc w base spare held fuel cells x h
  obtain ⟨ys, m, _, _, hl, hyl, hall⟩ := DataW.trod_array ht h
  rw [hct] at hl
  have key : ∀ k, k ≤ n → ∃ l : List α, l.length = k ∧ cells.take k = l.map c ∧ ∀ a ∈ l, R a w := by
    intro k
    induction k with
    | zero => exact fun _ => ⟨[], rfl, by simp, fun a ha => by cases ha⟩
    | succ k ih =>
      intro hk
      obtain ⟨l, hll, htk, hR⟩ := ih (by omega)
      have h1 := hall k (by omega)
      rw [hc, Nat.mul_one, List.getElem?_eq_getElem (by omega)] at h1
      obtain ⟨a, ha, hRa⟩ := he h1
      refine ⟨l ++ [a], by simp [hll], ?_, fun b hb => ?_⟩
      · have hd : (cells.drop k).take 1 = [cells[k]'(by omega)] := by
          rw [List.drop_eq_getElem_cons (show k < cells.length by omega)]; rfl
        rw [hd] at ha
        rw [List.take_succ_eq_append_getElem (by omega), htk, List.map_append]
        simp only [List.map_cons, List.map_nil, List.cons.injEq, and_true] at ha ⊢
        rw [ha]
      · rcases List.mem_append.1 hb with h | h
        · exact hR b h
        · simp at h; subst h; exact hRa
  obtain ⟨l, hll, htk, hR⟩ := key n (Nat.le_refl _)
  exact ⟨⟨l, hll⟩, by show cells = l.map c; rw [← htk, List.take_of_length_le (by omega)], hR⟩

/-- A struct: its cells, field by field. -/
theorem rd_fields {fs : Array Field} (ht : P.underlying t = some (.struct fs)) {H : Type} {enc : TypeId × Value → H} {w : World} {base : Nat} {spare : Nat → Bool} {held : Bool} {fuel : Nat} {cells : List Value} {x : DataW H × List MemPlace}
    (h : DataW.trod enc P w base spare held fuel t cells = some x) : cells.length = P.cellsOf t ∧ ∀ (i : Nat) (f : Field), fs[i]? = some f → ∃ (n : Nat) (y : DataW H × List MemPlace), DataW.trod enc P w base spare held n f.type ((cells.drop f.offset).take (P.cellsOf f.type)) = some y := by
  obtain ⟨xs, n, _, _, hl, hxl, hall⟩ := DataW.trod_struct ht h
  refine ⟨hl, fun i f hf => ?_⟩
  have := hall i f hf
  have hi : i < xs.length := by rw [hxl]; exact (Array.getElem?_eq_some_iff.1 hf).1
  rw [List.getElem?_eq_getElem hi] at this
  exact ⟨n, _, this⟩
end

/-- A struct's fields: type and place. -/
def fieldsOf (P : Program) (t : TypeId) : Option (List (TypeId × Nat)) := match P.underlying t with
  | some (.struct fs) => some (fs.toList.map fun f => (f.type, f.offset))
  | _ => none
theorem rd_field {P : Program} {t : TypeId} {fs : List (TypeId × Nat)} (ht : fieldsOf P t = some fs) {H : Type} {enc : TypeId × Value → H} {w : World} {base : Nat} {spare : Nat → Bool} {held : Bool} {fuel : Nat} {cells : List Value} {x : DataW H × List MemPlace}
    (h : DataW.trod enc P w base spare held fuel t cells = some x) : cells.length = P.cellsOf t ∧ ∀ {ty off : Nat} {n : Nat} {α : Type} {cs : α → List Value} {R : α → World → Prop}, (ty, off) ∈ fs → P.cellsOf ty = n → Rd P ty cs R → ∃ a, (cells.drop off).take n = cs a ∧ R a w := by
  unfold fieldsOf at ht
  split at ht
  · rename_i fs' hu
    cases ht
    obtain ⟨hl, hall⟩ := rd_fields hu h
    refine ⟨hl, fun hm hn hr => ?_⟩
    obtain ⟨f, hf, e⟩ := List.mem_map.1 hm
    cases e
    obtain ⟨i, hi⟩ := List.mem_iff_getElem?.1 hf
    obtain ⟨n, y, hy⟩ := hall i f (by simpa using hi)
    subst hn
    exact hr hy
  · cases ht

/-! ### Arguments -/
section
variable {P : Program} {w : World} {r : Reach} {b0 : Nat} {t e : TypeId} {v c : Value} {l : List Value}
theorem arg_agg (ht : (match P.underlying t with | some (.struct _) | some (.array _ _) => true | _ => false) = true) (hval : Value.okWide P w r b0 t v) (h : v.cells.toList = l) : v = .agg l.toArray := by
  unfold Value.okWide at hval
  split at hval
  · obtain ⟨cs, rfl, _⟩ := hval; subst h; rfl
  · obtain ⟨cs, rfl, _⟩ := hval; subst h; rfl
  · rename_i h1 h2
    split at ht
    · rename_i h3; exact absurd h3 (h1 _)
    · rename_i h3; exact absurd h3 (h2 _ _)
    · cases ht
theorem arg_int {k : IntKind} (ht : P.underlying t = some (.int k)) (hval : Value.okWide P w r b0 t v) (h : v.cells.toList = [c]) : v = c := by
  obtain ⟨n, rfl⟩ := okWide_int ht hval
  simpa [Value.cells] using h
theorem arg_slice (ht : P.underlying t = some (.slice e)) (hval : Value.okWide P w r b0 t v) (h : v.cells.toList = [c]) : v = c := by
  cases v with
  | agg cs => simp [Value.okWide, Cell.okWide, Cell.ok, ht] at hval
  | _ => simpa [Value.cells] using h
end

/-! ### What a row asks behind a call -/
theorem post_of_below {H : Type} {enc : TypeId × Value → H} {P : Program} {f : Func} {s : ChangeSpec} {apart fresh handsOn again : Bool} {W W' : World} {args : Array Value} {ds gs : List (DataW H)} {before : List MemPlace} {bt : TypeId}
    (hl : laidOutB P = true) (hp : (f.params.toList.all fun t => P.readableRec t && decide (t < P.types.size)) = true) (hsv : s.vars = []) (hrt : f.resultTypes = #[bt]) (hbt : P.underlying bt = some .bool)
    (hW : DataW.Whole enc P f.params.toList s.vars apart W args.toList ds gs before) (hfn : s.fn H ds = { results := [.lit (.bool true)], args := ds }) (hb : RowKit.Below W.heap.size W W') :
    s.post enc P f apart fresh handsOn again W args (.bool true) W' := by
  have hW' := hW
  obtain ⟨p, q, hA, hV, hbe, hz, hn⟩ := hW
  rw [hsv] at hV
  have hgs : gs = [] ∧ q = [] := by
    cases gs with
    | nil => exact ⟨rfl, hV⟩
    | cons g r => exact absurd hV (by intro h; cases h)
  obtain ⟨rfl, rfl⟩ := hgs
  rw [List.append_nil] at hbe
  rw [← hbe] at hA
  have hlt : ∀ x ∈ before, x.block < W.heap.size := hA.lt
  have hargs : ∀ (ts : List TypeId) (vs : List Value) (ds : List (DataW H)) (ps : List MemPlace), (ts.all fun t => P.readableRec t && decide (t < P.types.size)) = true → (∀ x ∈ ps, x.block < W.heap.size) → DataW.TrodAll enc P W 0 (fun _ => true) true ts vs ds ps →
      ∀ sp : Nat → Bool, (∀ x ∈ ps, sp x.block = true) → DataW.TrodAll enc P W' 0 sp true ts vs ds ps := by
    intro ts
    induction ts with
    | nil => intro vs ds ps _ _ h sp _; cases vs <;> cases ds <;> first | exact h | exact h.elim
    | cons t ts ih =>
      intro vs ds ps ha hps h sp hsp
      obtain ⟨v, vs', d, ds', p1, p2, rfl, rfl, rfl, h1, h2⟩ := trodAll_cons h
      simp only [List.all_cons, Bool.and_eq_true, decide_eq_true_eq] at ha
      exact ⟨p1, p2, WideElems.Trod_stays hl ha.1.1 ha.1.2 h1 (fun x hx => hb.same (hps x (List.mem_append_left _ hx))) (fun x hx => hsp x (List.mem_append_left _ hx)),
        ih vs' ds' p2 (by simpa using ha.2) (fun x hx => hps x (List.mem_append_right _ hx)) h2 sp (fun x hx => hsp x (List.mem_append_right _ hx)), rfl⟩
  have hargs' := hargs _ _ _ _ hp hlt hA
  have hold : ∀ x ∈ before, (fun b => decide (b < W.heap.size)) x.block = true := fun x hx => by simpa using hlt x hx
  have hres : ∀ (b : Nat) (sp : Nat → Bool) (hd : Bool), DataW.TrodAll enc P W' b sp hd f.resultTypes.toList ((Value.bool true).resultList f.resultTypes.size) [.lit (.bool true)] [] := by
    intro b sp hd
    rw [hrt]
    exact trodAll_mk1 (shut_bool hbt true)
  refine ⟨ds, [], before, [], before, [], hW', ?_, ?_, ?_, World.keptBut_mono (fun x hx => ⟨hx, .inr (.inl hx)⟩) (hb.frame _), fun _ => ?_⟩
  · rw [List.append_nil, hfn]; exact hres _ _ _
  · rw [List.append_nil, hfn]; exact hargs' _ hold
  · rw [List.append_nil, hfn, hsv]; rfl
  · refine ⟨ok_one hrt rfl (okWide_bool_mk hbt _), [.lit (.bool true)] ++ ds, [], (([] : List MemPlace) ++ before) ++ [], ⟨[] ++ before, [], trodAll_append ?_ (hres _ _ _), ?_, rfl, ?_, ?_⟩, ?_⟩
    · exact hargs' _ (fun _ _ => rfl)
    · rw [hsv]; rfl
    · intro b off hx
      have hx' : MemPlace.cell b off ∈ before := by simpa using hx
      rw [hb.frozen (p := ⟨b, off, none⟩) (hlt _ hx')]
      exact hz b off hx'
    · intro ha
      have := hn ha
      simpa using this
    · intro x hx _
      simpa using hx
end Go.Proofs.YtjahiohlekdhoaaDoor
