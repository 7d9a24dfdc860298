/-
  The engine, part 5: slices that are made, appended to, copied; closures; bits; strings out of bytes.
-/
import Derived.Test.YtjahiohlekdhoaaDoorE4
namespace Go.Proofs.YtjahiohlekdhoaaDoor
open Go

theorem fill_all {place : Nat → Option (Nat × Nat)} {sz : Nat} (hp : ∀ i, place i = some (i * sz, sz)) : ∀ (vs : List Value) (k : Nat) (pre : List Value) (cells : Array Value), (∀ v ∈ vs, v.cells.size = sz) → pre.length = k * sz → cells.size = (k + vs.length) * sz → cells.toList.take (k * sz) = pre →
    ∃ r, Instr.fill place cells ((vs.zipIdx k).map fun p => (p.2, p.1)) = some r ∧ r.toList = pre ++ vs.flatMap fun v => v.cells.toList
  | [], k, pre, cells, _, hpl, hc, ht => ⟨cells, rfl, by
    have : cells.toList.take (k * sz) = cells.toList := List.take_of_length_le (by simp; simp at hc; omega)
    simp [← ht, this]⟩
  | v :: vs, k, pre, cells, hv, hpl, hc, ht => by
    have h1 := hv v (.head _)
    have hsz : (k + (vs.length + 1)) * sz = (k + 1 + vs.length) * sz := by rw [Nat.add_assoc, Nat.add_comm vs.length 1]
    have hk1 : (k + 1) * sz = k * sz + sz := by rw [Nat.add_mul, Nat.one_mul]
    have hle : k * sz + sz ≤ cells.size := by
      rw [hc, ← hk1]; exact Nat.mul_le_mul_right _ (by simp)
    -- the part laid in
    have key : ∀ (l : List Value) (j : Nat) (cs : Array Value), k * sz + j + l.length ≤ cs.size →
        ((l.zipIdx j).foldl (fun cs p => cs.setIfInBounds (k * sz + p.2) p.1) cs).toList = cs.toList.take (k * sz + j) ++ l ++ cs.toList.drop (k * sz + j + l.length) := by
      intro l
      induction l with
      | nil => intro j cs _; simp
      | cons u l ih =>
        intro j cs hj
        simp only [List.zipIdx_cons, List.foldl_cons]
        rw [ih (j + 1) _ (by simp at hj ⊢; omega)]
        have e := list_seg_step cs.toList (k * sz + j) u l (by simp at hj ⊢; omega)
        simpa [Array.toList_setIfInBounds, Nat.add_assoc] using e
    obtain ⟨r, hr, hrl⟩ := fill_all hp vs (k + 1) (pre ++ v.cells.toList) ((v.cells.toList.zipIdx 0).foldl (fun cs p => cs.setIfInBounds (k * sz + p.2) p.1) cells) (fun u hu => hv u (.tail _ hu)) (by simp [hpl, h1, hk1]) (by
      have : ∀ (l : List (Value × Nat)) (cs : Array Value), (l.foldl (fun cs p => cs.setIfInBounds (k * sz + p.2) p.1) cs).size = cs.size := by
        intro l; induction l with
        | nil => intro cs; rfl
        | cons x l ih => intro cs; simp [ih]
      rw [this, hc]; simpa using hsz) (by
      rw [key _ 0 _ (by simpa [h1] using hle)]
      simp only [Nat.add_zero, hk1]
      rw [ht]
      rw [List.append_assoc, List.take_append, hpl]
      have : (pre : List Value).take (k * sz + sz) = pre := List.take_of_length_le (by omega)
      rw [this, show k * sz + sz - k * sz = sz by omega, List.take_append, List.take_of_length_le (by simp [h1]), show sz - v.cells.toList.length = 0 by simp [h1]]
      simp)
    refine ⟨r, ?_, by simp [hrl, List.flatMap_cons]⟩
    rw [List.zipIdx_cons, List.map_cons, Instr.fill]
    simp only [hp]
    rw [if_neg (by have h2 : ¬ cells.size < k * sz + v.cells.size := Nat.not_lt.2 (by rw [h1]; exact hle); simp [h1]; rw [h1] at h2; omega)]
    have e : v.cells.zipIdx.foldl (fun cs x => cs.setIfInBounds (k * sz + x.2) x.1) cells = (v.cells.toList.zipIdx 0).foldl (fun cs p => cs.setIfInBounds (k * sz + p.2) p.1) cells := by
      rw [← Array.foldl_toList, Array.toList_zipIdx]
    rw [← e] at hr
    exact hr

section
variable {c : Ctx} {ρ : List (Nat × Value)} {B B' Br : List Own} {Φ : List Res} {Ψ : List JR} {ops : Array Oper} {rest : List Oper} {Q : Post} {d ty t : Nat} {ps : String} {af : Array Edge} {x y z : Operand} {v u z0 : Value}
  {ba : Option Addr} {n cap : Nat} {cs : List Value} {m : Int} {kk : IntKind} {e sz by' : Nat}

/-- What is new in memory, and a row of one's own in front. -/
theorem MS.newRow {V U M : Av} {w w' : World} (m : MS c B Φ Ψ V U M w) {v : Value} {xs : List Value} (hown : w'.ownsRow 0 e sz v n xs) (hb : ∀ b, v.ownBlock = some b → w.heap.size ≤ b) (hg : w.grownBy w' none) :
    ∃ V' U', MS c (.row v n xs e sz :: B) Φ Ψ V' U' M w' := by
  have hs : ∀ k, k < w.heap.size → w'.heap[k]? = w.heap[k]? := fun k hk => hg.block k hk (by simp)
  have kv : Kept V (fun b => v.ownBlock = some b ∨ V b) w w' := ⟨hg.size, fun b hl _ => hs b hl, fun b hl h => h.resolve_left fun h => by have := hb b h; omega⟩
  have ku : Kept U (fun b => v.ownBlock = some b ∨ U b) w w' := ⟨hg.size, fun b hl _ => hs b hl, fun b hl h => h.resolve_left fun h => by have := hb b h; omega⟩
  have hbl : ∀ b, blks (.row v n xs e sz :: B) b → v.ownBlock = some b ∨ blks B b := fun b ⟨q, hq, h⟩ => by
    cases hq with
    | head => exact .inl h
    | tail _ hq => exact .inr ⟨q, hq, h⟩
  have hlt : ∀ b, v.ownBlock = some b → b < w'.heap.size := fun b h => (World.ownsRow.lt hown b h).2
  refine ⟨_, fun b => v.ownBlock = some b ∨ U b, ⟨fun b h => .inr (m.vx b h), fun b h => .inr (m.vm b h), fun b h => (hbl b h).imp id (m.vb b), fun b h => ?_, fun b h => (hbl b h).imp id (m.ub b), fun b h => ?_,
    ⟨fun q hq => ?_, .cons (fun q hq b h1 h2 => ?_) m.sep.apart⟩, fun b h => ?_, fun φ hφ => φ.st kv (m.phi φ hφ), fun ψ hψ => ψ.st ku (m.psi ψ hψ), c.G.st kv m.g, Nat.le_trans m.sz hg.size, fun b h1 h2 h3 => ?_, m.xlt, m.mo, m.io.trans ⟨hg.os, hg.output, hg.tape⟩⟩⟩
  · rcases h with h | h
    · exact hlt b h
    · exact Nat.lt_of_lt_of_le (m.vlt b h) hg.size
  · rcases h with h | h
    · exact hlt b h
    · exact Nat.lt_of_lt_of_le (m.ult b h) hg.size
  · cases hq with
    | head => exact hown
    | tail _ hq => exact Own.keep (m.sep.holds q hq) fun b h => hs b (Own.lt (m.sep.holds q hq) h)
  · have h3 := Own.lt (m.sep.holds q hq) h2
    have h4 := hb b h1
    omega
  · rcases hbl b h with h' | h'
    · have h4 := hb b h'
      have h5 := m.sz
      exact ⟨.inr (by omega), fun h => by have := m.xlt _ h; omega, fun h => by have := m.vlt _ (m.vm _ h); omega⟩
    · exact m.own b h'
  · have h := m.sz
    exact (hs b (by omega)).trans (m.frame b h1 h2 h3)

/-- 'append' to a row of one's own that stands in front. -/
theorem MS.grow {V U M : Av} {w w' : World} {v' : Value} {n' : Nat} {xs xs' : List Value} (m : MS c (.row v n xs e sz :: B) Φ Ψ V U M w) (hown : w'.ownsRow 0 e sz v' n' xs') (hg : w.grownBy w' v.ownBlock)
    (hb : ∀ b, v'.ownBlock = some b → v.ownBlock = some b ∨ w.heap.size ≤ b) : ∃ V' U', MS c (.row v' n' xs' e sz :: B) Φ Ψ V' U' M w' := by
  have hV : ∀ b, v.ownBlock = some b → V b := fun b h => m.vb b ⟨_, .head _, h⟩
  have hU : ∀ b, v.ownBlock = some b → U b := fun b h => m.ub b ⟨_, .head _, h⟩
  have hs : ∀ k, k < w.heap.size → v.ownBlock ≠ some k → w'.heap[k]? = w.heap[k]? := fun k hk hn => hg.block k hk (fun h => hn h.symm)
  have kv : Kept V (fun b => v'.ownBlock = some b ∨ V b) w w' := ⟨hg.size, fun b hl hn => hs b hl fun h => hn (hV b h), fun b hl h => h.elim (fun h => (hb b h).elim (hV b) fun h => by omega) id⟩
  have ku : Kept U (fun b => v'.ownBlock = some b ∨ U b) w w' := ⟨hg.size, fun b hl hn => hs b hl fun h => hn (hU b h), fun b hl h => h.elim (fun h => (hb b h).elim (hU b) fun h => by omega) id⟩
  have hbl : ∀ b, blks (.row v' n' xs' e sz :: B) b → v'.ownBlock = some b ∨ blks B b := fun b ⟨q, hq, h⟩ => by
    cases hq with
    | head => exact .inl h
    | tail _ hq => exact .inr ⟨q, hq, h⟩
  have hB : ∀ b, blks B b → blks (.row v n xs e sz :: B) b := fun b ⟨q, hq, h⟩ => ⟨q, .tail _ hq, h⟩
  have hlt : ∀ b, v'.ownBlock = some b → b < w'.heap.size := fun b h => (World.ownsRow.lt hown b h).2
  have hap := List.pairwise_cons.1 m.sep.apart
  refine ⟨_, fun b => v'.ownBlock = some b ∨ U b, ⟨fun b h => .inr (m.vx b h), fun b h => .inr (m.vm b h), fun b h => (hbl b h).imp id fun h => m.vb b (hB b h), fun b h => ?_, fun b h => (hbl b h).imp id fun h => m.ub b (hB b h), fun b h => ?_,
    ⟨fun q hq => ?_, .cons (fun q hq b h1 h2 => ?_) hap.2⟩, fun b h => ?_, fun φ hφ => φ.st kv (m.phi φ hφ), fun ψ hψ => ψ.st ku (m.psi ψ hψ), c.G.st kv m.g, Nat.le_trans m.sz hg.size, fun b h1 h2 h3 => ?_, m.xlt, m.mo, m.io.trans ⟨hg.os, hg.output, hg.tape⟩⟩⟩
  · rcases h with h | h
    · exact hlt b h
    · exact Nat.lt_of_lt_of_le (m.vlt b h) hg.size
  · rcases h with h | h
    · exact hlt b h
    · exact Nat.lt_of_lt_of_le (m.ult b h) hg.size
  · cases hq with
    | head => exact hown
    | tail _ hq => exact Own.keep (m.sep.holds q (.tail _ hq)) fun b h => hs b (Own.lt (m.sep.holds q (.tail _ hq)) h) fun h' => hap.1 q hq b h' h
  · rcases hb b h1 with h3 | h3
    · exact hap.1 q hq b h3 h2
    · have h4 := Own.lt (m.sep.holds q (.tail _ hq)) h2
      omega
  · rcases hbl b h with h' | h'
    · rcases hb b h' with h3 | h3
      · exact m.own b ⟨_, .head _, h3⟩
      · have h5 := m.sz
        exact ⟨.inr (by omega), fun h => by have := m.xlt _ h; omega, fun h => by have := m.vlt _ (m.vm _ h); omega⟩
    · exact m.own b (hB b h')
  · have h := m.sz
    refine (hs b (by omega) fun h => ?_).trans (m.frame b h1 h2 h3)
    rcases (m.own b ⟨_, .head _, h⟩).1 with h' | h'
    · exact h2 h'
    · omega

/-- '[]T{a, b, ..}'. -/
theorem r_lit {len : Nat} {xs : List Operand} {vs : List Value} (ht : tSl c.P t = some (e, sz, by')) (hz : tZ c.P e = some z0) (hx : evs ρ xs = some vs) (hlen : vs.length = len) (hv : ∀ v ∈ vs, v.cells.size = sz) (hsm : len * sz ≤ 2 ^ 24) (hl24 : len ≤ 2 ^ 24)
    {parts : List (Nat × Operand)} (hp : parts = (xs.zipIdx 0).map fun p => (p.2, p.1)) {cells : List Value} (hcells : (vs.flatMap fun v => v.cells.toList) = cells) (hb : Nat.blt d c.nt = true)
    (k : ∀ b, SL c ((d, .slice (some ⟨b, 0, none⟩) len len) :: ρ) (.row (.slice (some ⟨b, 0, none⟩) len len) len cells e sz :: B) Φ Ψ ops rest Q) :
    SL c ρ B Φ Ψ ops (⟨some d, .buildSlice t len parts.toArray, ty, ps, af, none⟩ :: rest) Q :=
  sl_plain rfl fun a w hs K hK => by
    obtain ⟨hu, ii, hii, hsz, _⟩ := tSl_inv ht
    have hz' : ii.zero = some z0 := by unfold tZ at hz; simpa [hii] using hz
    have hmap : (parts.map fun p => (p.1, a.eval p.2)) = (vs.zipIdx 0).map fun p => (p.2, p.1) := by
      rw [hp, ← hs.evs hx]
      simp [List.zipIdx_map, Function.comp_def]
    obtain ⟨r, hr, hrl⟩ := fill_all (place := fun i => some (i * sz, sz)) (sz := sz) (fun _ => rfl) vs 0 [] ((Array.range (len * sz)).map ((if len * sz = 0 then #[] else z0.cells)[· % (if len * sz = 0 then #[] else z0.cells).size]!)) hv (by simp) (by simp [hlen]) (by simp)
    have hown : (w.alloc (.cells r e)).ownsRow 0 e sz (.slice (some ⟨w.heap.size, 0, none⟩) len len) len cells := by
      have hrs : r.size = len * sz := by
        have : r.toList.length = len * sz := by
          rw [hrl, List.nil_append, ← hlen]
          clear hr hrl hcells hmap hx hlen
          induction vs with
          | nil => simp
          | cons v vs ih => simp only [List.flatMap_cons, List.length_append, Array.length_toList, hv v (.head _), ih (fun u hu => hv u (.tail _ hu)), List.length_cons, Nat.add_mul, Nat.one_mul, Nat.add_comm]
        simpa using this
      have hlm : len ≤ maxLen := by unfold maxLen; omega
      have := World.ownsRow_lit (base := 0) (e := e) (size := sz) w r len (Nat.zero_le _) hlm hrs
      rw [hrl, List.nil_append, hcells] at this
      exact this
    refine op_value (v := .slice (some ⟨w.heap.size, 0, none⟩) len len) (w' := w.alloc (.cells r e)) (fun _ => by simp) ?_ (hK _ _ (k w.heap.size _ _ ?_))
    · have hsm' : ¬ len * sz > 2 ^ 24 := by omega
      by_cases h0 : len * sz = 0
      · simp only [h0, if_true] at hr
        simp at hr
        simp [execOp, Instr.buildSlice, run_underlying hu, sizeOf, typeInfo, hii, hsz, h0, hmap, hr, newRow]
      · simp only [h0, if_false] at hr
        simp [execOp, Instr.buildSlice, run_underlying hu, sizeOf, typeInfo, zeroValue, hii, hsz, hz', h0, hsm', hmap, hr, newRow]
    · obtain ⟨V, U, M, m⟩ := hs.mem
      obtain ⟨V', U', m'⟩ := m.newRow hown (fun b h => by simp [Value.ownBlock] at h; omega) (World.grownBy_alloc w _ none)
      exact (hs.put hb _).mem' rfl m'

theorem ownBlock_of {w : World} {xs : List Value} (h : w.ownsRow 0 e sz v n xs) : v.cells = #[v] ∧ v.oneCell' = true := by
  rcases h.2 with ⟨rfl, _⟩ | ⟨g, cap, cur, rfl, _⟩ <;> exact ⟨rfl, rfl⟩

/-- Where the new slice of an append lies. -/
theorem run_append_own' {P : Program} {w : World} {xs : List Value} {i : TypeInfo} {z : Value} (ht : P.underlying t = some (.slice e)) (hi : P.info? e = some i) (hz : i.zero = some z)
    (hsize : i.size = sz) (hby : i.bytes = by') (hzs : z.cells.size = sz) (hsz : 0 < sz) (hown : w.ownsRow 0 e sz v n xs)
    (a : Addr) (m c' : Nat) (news : List Value) (hl : news.length = m * sz) (hnews : ∀ j u, news[j]? = some u → w.cell? (a.add j) = some u) (h1 : ∀ u ∈ news, u.oneCell' = true)
    (h63 : n + m ≤ maxLen) (hbytes : (n + m) * by' ≤ 140737488355328) {ty : TypeId} :
    ∃ v' w', (Builtin.append_ #[t, t] ty #[v, .slice (some a) m c']).run P w = .ok v' w' ∧ w'.ownsRow 0 e sz v' (n + m) (xs ++ news) ∧ w.grownBy w' v.ownBlock ∧ (∀ b, v'.ownBlock = some b → v.ownBlock = some b ∨ w.heap.size ≤ b) := by
  obtain ⟨v', w', h2, h3, h4, _⟩ := run_append_own (P := P) w 0 t ty e i z sz by' ht hi hz hsize hby hzs hsz v n xs hown a m c' news hl hnews h1 h63 hbytes (Nat.zero_le _)
  refine ⟨v', w', h2, h3, h4, fun b hb => ?_⟩
  rcases hown.2 with ⟨rfl, rfl⟩ | ⟨g, cap, cur, rfl, hbg, hg, hnc, hcm, hcs, htake⟩
  · by_cases hm : m = 0
    · subst hm
      have hn : news = [] := List.eq_nil_of_length_eq_zero (by simpa using hl)
      subst hn
      have : (Builtin.append_ #[t, t] ty #[.slice none 0 0, .slice (some a) 0 c']).run P w = .ok (.slice none 0 0) w := by
        simp [Builtin.append_, run_underlying ht, sizeOf, typeInfo, hi, Builtin.lenOf, Builtin.firstCells, loadCells, loadCellsFrom]
      rw [this] at h2
      cases h2
      simp [Value.ownBlock] at hb
    · unfold maxLen at h63
      have hr := run_append_nil (P := P) w t ty e i z ht hi hz a m c' news (by rw [hsize]; exact hl) hnews (by omega) (by omega) (by rw [hby]; have := hbytes; simp only [Nat.zero_add] at this; omega)
      rw [hr] at h2
      cases h2
      simp [Value.ownBlock] at hb
      exact .inr (by omega)
  · by_cases hroom : n + m ≤ cap
    · have hr := run_append_room (P := P) w t ty e i ht hi g n cap cur hg a m c' news (by rw [hsize]; exact hl) hnews h1 hroom (by rw [hsize, hl, hcs, ← Nat.add_mul]; exact Nat.mul_le_mul_right _ hroom)
      rw [hr] at h2
      cases h2
      exact .inl hb
    · have holds : ∀ j u, xs[j]? = some u → w.cell? ((⟨g, 0, none⟩ : Addr).add j) = some u := hown.cells (g := g) rfl
      have hr := run_append_grow (P := P) w t ty e i z ht hi hz ⟨g, 0, none⟩ n cap xs (by rw [hsize]; exact hown.1) holds a m c' news (by rw [hsize]; exact hl) hnews (by omega) (by unfold maxLen at h63; omega) (by rw [hby]; exact growslice_fits (by omega) hbytes)
      rw [hr] at h2
      cases h2
      simp [Value.ownBlock] at hb
      exact .inr (by omega)

/-- 'append(s, x...)': s a row of one's own that stands in front; x a slice that is told. -/
theorem r_append {xs news : List Value} {mm c' at1 : Nat} (ht : tSl c.P at1 = some (e, sz, by')) (hz : tZ c.P e = some z0) (hz1 : z0.cells.size = sz) (hsz0 : Nat.beq sz 0 = false) (hx : ev ρ x = some v) (hy : ev ρ y = some (.slice ba mm c')) (hm : Res.mem ba news ∈ Φ) (hl : news.length = mm * sz)
    (h1 : news.all Value.oneCell' = true) (h63 : n + mm ≤ 9223372036854775807) (hbytes : (n + mm) * by' ≤ 140737488355328) (hb : Nat.blt d c.nt = true)
    (k : ∀ v', v'.cells = #[v'] → v'.oneCell' = true → SL c ((d, v') :: ρ) (.row v' (n + mm) (xs ++ news) e sz :: B) Φ Ψ ops rest Q) :
    SL c ρ (.row v n xs e sz :: B) Φ Ψ ops (⟨some d, .call ⟨.builtin .append, #[x, y], #[at1, at1]⟩, ty, ps, af, none⟩ :: rest) Q :=
  sl_plain rfl fun a w hs K hK => by
    obtain ⟨hu, ii, hii, hsz, hby⟩ := tSl_inv ht
    have hz' : ii.zero = some z0 := by unfold tZ at hz; simpa [hii] using hz
    have hszp : 0 < sz := Nat.pos_of_ne_zero (ne_of_beq hsz0)
    obtain ⟨V, U, M, m⟩ := hs.mem
    have hown : w.ownsRow 0 e sz v n xs := m.sep.holds _ (.head _)
    have fin : ∀ v' w', (Builtin.append_ #[at1, at1] ty #[v, .slice ba mm c']).run c.P w = .ok v' w' → w'.ownsRow 0 e sz v' (n + mm) (xs ++ news) → w.grownBy w' v.ownBlock → (∀ b, v'.ownBlock = some b → v.ownBlock = some b ∨ w.heap.size ≤ b) →
        Oper.wpIn (Fr c.r) 0 c.P (⟨some d, .call ⟨.builtin .append, #[x, y], #[at1, at1]⟩, ty, ps, af, none⟩) a w K Q := fun v' w' h2 h3 h4 h5 => by
      obtain ⟨h6, h7⟩ := ownBlock_of h3
      refine op_value (v := v') (w' := w') (fun _ => by simp) ?_ (hK _ _ (k v' h6 h7 _ _ ?_))
      · simp [execOp, resolve, invoke, builtin, hs.ev hx, hs.ev hy, h2]
      · obtain ⟨V', U', m'⟩ := m.grow h3 h4 h5
        exact (hs.put hb v').mem' rfl m'
    cases ba with
    | some ad =>
      obtain ⟨v', w', h2, h3, h4, h5⟩ := run_append_own' (P := c.P) (w := w) hu hii hz' hsz hby hz1 hszp hown ad mm c' news hl (fun j u hj => by
        obtain ⟨ad', he, _, hc⟩ := m.phi _ hm j u hj
        cases he; exact hc) (fun u hu => List.all_eq_true.1 h1 u hu) (by unfold maxLen; omega) hbytes (ty := ty)
      exact fin v' w' h2 h3 h4 h5
    | none =>
      have hn : news = [] := by
        cases news with
        | nil => rfl
        | cons u us => obtain ⟨ad', he, _⟩ := m.phi _ hm 0 u rfl; cases he
      subst hn
      have hm0 : mm = 0 := by
        simp only [List.length_nil] at hl
        rcases Nat.mul_eq_zero.1 hl.symm with h | h
        · exact h
        · omega
      subst hm0
      refine fin v w ?_ (by simpa using hown) ⟨rfl, rfl, rfl, Nat.le_refl _, fun _ _ _ => rfl⟩ fun b h => .inl h
      rcases hown.2 with ⟨rfl, rfl⟩ | ⟨g, cap, cur, rfl, _, _, hnc, _⟩
      · simp [Builtin.append_, run_underlying hu, sizeOf, typeInfo, hii, Builtin.lenOf, Builtin.firstCells]
      · simp [Builtin.append_, run_underlying hu, sizeOf, typeInfo, hii, Builtin.lenOf, Builtin.firstCells, hnc, storeCells]

/-- 'copy(dst, src)' into an array variable of one's own. -/
theorem r_copy {b o dl dc mm c' nn at1 at2 : Nat} {cur cur' news : List Value} {bt : TypeId} (ht : tSl c.P at1 = some (e, 1, by')) (hx : ev ρ x = some (.slice (some ⟨b, o, none⟩) dl dc)) (hy : ev ρ y = some (.slice ba mm c')) (hm : Res.mem ba news ∈ Φ)
    (hn : Nat.min mm dl = nn) (hl : nn ≤ news.length) (hfit : o + nn ≤ cur.length) (h1 : news.all Value.oneCell' = true) (hcur : splice cur o (news.take nn) = cur') (hB : Upd B (.box b cur bt) (.box b cur' bt) B') (hb : Nat.blt d c.nt = true)
    (k : SL c ((d, .int .i64 nn) :: ρ) B' Φ Ψ ops rest Q) :
    SL c ρ B Φ Ψ ops (⟨some d, .call ⟨.builtin .copy, #[x, y], #[at1, at2]⟩, ty, ps, af, none⟩ :: rest) Q :=
  sl_plain rfl fun a w hs K hK => by
    obtain ⟨hu, ii, hii, hsz, hby⟩ := tSl_inv ht
    obtain ⟨V, U, M, m⟩ := hs.mem
    have hold := m.sep.holds _ hB.mem
    have hsame : w.setRow b cur.toArray = w := setRow_self w b cur.toArray bt _ hold
    have hlen : (news.take nn).length = nn := by simp; omega
    refine op_value (v := .int .i64 nn) (w' := w.setRow b cur'.toArray) (fun _ => by simp) ?_ (hK _ _ (k _ _ ?_))
    · cases ba with
      | some ad =>
        have hr := run_copy_row (P := c.P) w at1 at2 ty e b o dl dc ad mm c' cur.toArray bt (news.take nn) hu (by simp [hii, hsz]) hold (by rw [hlen, hn]) (fun j v hj => by
          rw [List.getElem?_take] at hj
          split at hj
          · obtain ⟨ad', he, _, hc⟩ := m.phi _ hm j v hj
            cases he; exact hc
          · cases hj) (by simp; omega) (fun v hv => List.all_eq_true.1 h1 v (List.mem_of_mem_take hv))
        have e1 : (cur.toArray.toList.take o ++ news.take nn ++ cur.toArray.toList.drop (o + (news.take nn).length)) = cur' := by rw [← hcur]; simp [splice]
        rw [e1, hlen] at hr
        simp [execOp, resolve, invoke, builtin, hs.ev hx, hs.ev hy, hr, goInt]
      | none =>
        have hn0 : news = [] := by
          cases news with
          | nil => rfl
          | cons u us => obtain ⟨ad', he, _⟩ := m.phi _ hm 0 u rfl; cases he
        subst hn0
        have h0 : nn = 0 := by simpa using hl
        subst h0
        have : cur' = cur := by rw [← hcur]; simp [splice]
        subst this
        have hl0 : ∀ q, (storeCells ⟨b, o, none⟩ [] q).run c.P w = .ok () w := fun q => rfl
        simp [execOp, resolve, invoke, builtin, hs.ev hx, hs.ev hy, Builtin.copy_, run_underlying hu, Builtin.lenOf, Builtin.firstCells, sizeOf, typeInfo, hii, hl0, goInt, hsame]
        exact (by rw [show Nat.min mm dl = min mm dl from rfl] at hn; omega)
    · have hh : (Own.box b cur' bt).holds (w.setRow b cur'.toArray) := box_setRow hold
      exact (hs.put hb _).mem' (hB.marks rfl) (m.turn hB rfl (w' := w.setRow b cur'.toArray) hh (by simp) fun k hk => setRow_other w b k _ (fun e => hk (by rw [e]; rfl)))

/-- A closure. -/
theorem r_clos {f : Fn} {caps : List Operand} {vs : List Value} (hx : evs ρ caps = some vs := by exact rfl) (hb : Nat.blt d c.nt = true := by exact rfl) (k : SL c ((d, .func f #[] vs.toArray) :: ρ) B Φ Ψ ops rest Q) :
    SL c ρ B Φ Ψ ops (⟨some d, .makeFunc f #[] caps.toArray, ty, ps, af, none⟩ :: rest) Q :=
  r_val rfl (fun _ => by simp) rfl hb (fun a w hs => by
    have : caps.toArray.map a.eval = vs.toArray := by rw [List.map_toArray, hs.evs hx]
    simp [execOp, Instr.makeFunc, this]) k

/-- A value of a struct or an array, made of parts. -/
theorem r_build {_zc : Array Value} {parts : Array (Nat × Operand)} {ps' : List (Nat × Value)} {cells : Array Value} (hps : ∀ a : Operand → Value, (∀ x v, ev ρ x = some v → a x = v) → (parts.map fun p => (p.1, a p.2)).toList = ps')
    (hrun : ∀ w, (Instr.build t ps'.toArray).run c.P w = .ok (.agg cells) w) (hb : Nat.blt d c.nt = true) (k : SL c ((d, .agg cells) :: ρ) B Φ Ψ ops rest Q) :
    SL c ρ B Φ Ψ ops (⟨some d, .build t parts, ty, ps, af, none⟩ :: rest) Q :=
  r_val rfl (fun _ => by simp) rfl hb (fun a w hs => by
    have h := hps a.eval (fun x v h => hs.ev h)
    have h' : (parts.map fun p => (p.1, a.eval p.2)) = ps'.toArray := by rw [← h]
    have h2 := hrun w
    rw [← h'] at h2
    simp [execOp, h2]) k
end
end Go.Proofs.YtjahiohlekdhoaaDoor
