/-
  Part 1 of the proof.
-/
import Derived.WalkKit
import Derived.WalkSpells
import Derived.ChangeKeysEq
import Derived.StillTail
set_option linter.all false
namespace Go.Proofs.YtkpbhdhkdonghaaGreat
open Go Go.RowKit
def RowIs (w : World) (g : Nat) (cs : Array Value) : Prop := ∃ t, w.heap[g]? = some (.cells cs t (0, 0))
theorem RowIs.lt {w : World} {g : Nat} {cs : Array Value} (h : RowIs w g cs) : g < w.heap.size := by
  obtain ⟨t, h⟩ := h
  exact (Array.getElem?_eq_some_iff.1 h).1
theorem RowIs.cell {w : World} {g : Nat} {cs : Array Value} (h : RowIs w g cs) (i : Nat) : w.cell? ⟨g, i, none⟩ = cs[i]? := by
  obtain ⟨t, h⟩ := h
  exact cell_of_row w g i cs t (0, 0) h
theorem RowIs.free {w : World} {g : Nat} {cs : Array Value} (h : RowIs w g cs) (i : Nat) : w.frozen? ⟨g, i, none⟩ = false := by
  obtain ⟨t, h⟩ := h
  exact frozen_of_row w g i cs t h
theorem RowIs.new (w : World) (cs : Array Value) (t : TypeId) : RowIs (w.alloc (.cells cs t)) w.heap.size cs := ⟨t, heap_alloc_new w _⟩
theorem RowIs.of_block {w w' : World} {g : Nat} {cs : Array Value} (h : RowIs w g cs) (e : w'.heap[g]? = w.heap[g]?) : RowIs w' g cs := by
  obtain ⟨t, h⟩ := h
  exact ⟨t, e.trans h⟩
theorem RowIs.setRow {w : World} {g : Nat} {cs : Array Value} (h : RowIs w g cs) (vs : Array Value) : RowIs (w.setRow g vs) g vs := by
  obtain ⟨t, h⟩ := h
  exact ⟨t, setRow_heap w g cs vs t _ h⟩
theorem RowIs.setCell {w : World} {g : Nat} {cs : Array Value} (h : RowIs w g cs) (i : Nat) (v : Value) : RowIs (w.setCell ⟨g, i, none⟩ v) g (cs.setIfInBounds i v) := by
  obtain ⟨t, h⟩ := h
  exact ⟨t, heap_setCell_same w g i cs t v h⟩
structure Mem (w0 w : World) (rs : List (Nat × Array Value)) : Prop where
  below : Below w0.heap.size w0 w
  own : ∀ p ∈ rs, w0.heap.size ≤ p.1
  rows : ∀ p ∈ rs, RowIs w p.1 p.2
  apart : (rs.map (·.1)).Nodup
theorem Mem.nil (w : World) : Mem w w [] := ⟨Below.refl _ _, by simp, by simp, by simp⟩
theorem Mem.get {w0 w : World} {rs : List (Nat × Array Value)} (h : Mem w0 w rs) (i : Nat) {g : Nat} {cs : Array Value} (hi : rs[i]? = some (g, cs)) : RowIs w g cs :=
  h.rows (g, cs) (List.mem_of_getElem? hi)
theorem Mem.alloc {w0 w : World} {rs : List (Nat × Array Value)} (h : Mem w0 w rs) (cs : Array Value) (t : TypeId) : Mem w0 (w.alloc (.cells cs t)) ((w.heap.size, cs) :: rs) := by
  refine ⟨h.below.alloc h.below.size _, ?_, ?_, ?_⟩
  · intro p hp
    rcases List.mem_cons.1 hp with rfl | hp
    · exact h.below.size
    · exact h.own p hp
  · intro p hp
    rcases List.mem_cons.1 hp with rfl | hp
    · exact RowIs.new w cs t
    · exact (h.rows p hp).of_block (Below.heap_alloc w _ _ (h.rows p hp).lt)
  · simp only [List.map_cons, List.nodup_cons]
    refine ⟨?_, h.apart⟩
    intro hm
    obtain ⟨p, hp, e⟩ := List.mem_map.1 hm
    have := (h.rows p hp).lt
    omega
theorem Mem.alloc_obj {w0 w : World} {rs : List (Nat × Array Value)} (h : Mem w0 w rs) (o : Obj) : Mem w0 (w.alloc o) rs :=
  ⟨h.below.alloc h.below.size _, h.own, fun p hp => (h.rows p hp).of_block (Below.heap_alloc w _ _ (h.rows p hp).lt), h.apart⟩
theorem Mem.drew {w0 w : World} {rs : List (Nat × Array Value)} (h : Mem w0 w rs) : Mem w0 w.drew rs :=
  ⟨h.below.drew, h.own, fun p hp => (h.rows p hp).of_block rfl, h.apart⟩
theorem Mem.drawn {w0 w : World} {rs : List (Nat × Array Value)} (h : Mem w0 w rs) (n : Nat) : Mem w0 { w with drawn := n } rs :=
  ⟨⟨h.below.os, h.below.tape, h.below.output, h.below.size, h.below.block⟩, h.own, fun p hp => (h.rows p hp).of_block rfl, h.apart⟩
theorem Mem.call {w0 w w' : World} {rs : List (Nat × Array Value)} (h : Mem w0 w rs) (hb : Below w.heap.size w w') : Mem w0 w' rs :=
  ⟨h.below.trans (hb.mono h.below.size), h.own, fun p hp => (h.rows p hp).of_block (hb.block _ (h.rows p hp).lt), h.apart⟩
theorem Mem.grown {w0 w w' : World} {rs : List (Nat × Array Value)} (h : Mem w0 w rs) {row : Option Nat} (hg : w.grownBy w' row) (hr : ∀ k, row = some k → w0.heap.size ≤ k) (hn : ∀ k, row = some k → k ∉ rs.map (·.1)) : Mem w0 w' rs :=
  ⟨h.below.grown hg h.below.size hr, h.own, fun p hp => (h.rows p hp).of_block (hg.block _ (h.rows p hp).lt (fun e => hn _ e.symm (List.mem_map.2 ⟨p, hp, rfl⟩))), h.apart⟩
theorem map_fst_set {α β : Type} : ∀ (rs : List (α × β)) (i : Nat) (g : α) (c c' : β), rs[i]? = some (g, c) → (rs.set i (g, c')).map (·.1) = rs.map (·.1)
  | [], _, _, _, _, h => by simp at h
  | r :: rs, 0, g, c, c', h => by simp at h; subst h; simp
  | r :: rs, i + 1, g, c, c', h => by simp at h; simp [map_fst_set rs i g c c' h]
theorem mem_set_or {α : Type} : ∀ (l : List α) (i : Nat) (x y : α), y ∈ l.set i x → y = x ∨ ∃ j, j ≠ i ∧ l[j]? = some y
  | [], _, _, _, h => by simp at h
  | a :: l, 0, x, y, h => by
    simp at h
    rcases h with rfl | h
    · exact .inl rfl
    · obtain ⟨j, hj, e⟩ := List.getElem_of_mem h
      exact .inr ⟨j + 1, by omega, by simp [List.getElem?_eq_getElem hj, e]⟩
  | a :: l, i + 1, x, y, h => by
    simp at h
    rcases h with rfl | h
    · exact .inr ⟨0, by omega, by simp⟩
    · rcases mem_set_or l i x y h with h | ⟨j, hj, e⟩
      · exact .inl h
      · exact .inr ⟨j + 1, by omega, by simpa using e⟩
theorem nodup_get_ne {α β : Type} (rs : List (α × β)) (hn : (rs.map (·.1)).Nodup) (i j : Nat) (p q : α × β) (hi : rs[i]? = some p) (hj : rs[j]? = some q) (hij : j ≠ i) : q.1 ≠ p.1 := by
  intro e
  have h1 : (rs.map (·.1))[i]? = some p.1 := by simp [hi]
  have h2 : (rs.map (·.1))[j]? = some p.1 := by simp [hj, e]
  obtain ⟨a1, a2⟩ := List.getElem?_eq_some_iff.1 h1
  obtain ⟨b1, b2⟩ := List.getElem?_eq_some_iff.1 h2
  have hp := List.pairwise_iff_getElem.1 hn
  rcases Nat.lt_or_gt_of_ne hij with hlt | hlt
  · exact hp j i b1 a1 hlt (b2.trans a2.symm)
  · exact hp i j a1 b1 hlt (a2.trans b2.symm)
theorem Mem.put {w0 w w' : World} {rs : List (Nat × Array Value)} (h : Mem w0 w rs) (i : Nat) {g : Nat} {cs vs : Array Value} (hi : rs[i]? = some (g, cs)) (hr : RowIs w' g vs) (hg : w.grownBy w' (some g)) : Mem w0 w' (rs.set i (g, vs)) := by
  have hm : (g, cs) ∈ rs := List.mem_of_getElem? hi
  refine ⟨h.below.grown hg h.below.size (fun k e => by cases e; exact h.own _ hm), ?_, ?_, ?_⟩
  · intro p hp
    rcases mem_set_or _ _ _ _ hp with e | ⟨j, hj, e⟩
    · rw [e]; show w0.heap.size ≤ g; exact h.own (g, cs) hm
    · exact h.own _ (List.mem_of_getElem? e)
  · intro p hp
    rcases mem_set_or _ _ _ _ hp with rfl | ⟨j, hj, e⟩
    · exact hr
    · have hpm := List.mem_of_getElem? e
      have hne : p.1 ≠ g := nodup_get_ne rs h.apart i j _ _ hi e hj
      exact (h.rows p hpm).of_block (hg.block _ (h.rows p hpm).lt (fun e => hne (by cases e; rfl)))
  · rw [map_fst_set rs i g cs vs hi]; exact h.apart
theorem grownBy_setRow (w : World) (g : Nat) (cs : Array Value) : w.grownBy (w.setRow g cs) (some g) :=
  ⟨rfl, rfl, rfl, by simp, fun k _ hk => setRow_other w g k cs (fun e => hk (by rw [e]))⟩
theorem grownBy_setCell (w : World) (g i : Nat) (v : Value) : w.grownBy (w.setCell ⟨g, i, none⟩ v) (some g) :=
  ⟨rfl, rfl, rfl, by simp [World.setCell], fun k _ hk => heap_setCell_other w _ k v (fun e => hk (by rw [e]))⟩
theorem Mem.setRow {w0 w : World} {rs : List (Nat × Array Value)} (h : Mem w0 w rs) (i : Nat) {g : Nat} {cs : Array Value} (vs : Array Value) (hi : rs[i]? = some (g, cs)) : Mem w0 (w.setRow g vs) (rs.set i (g, vs)) :=
  h.put i hi ((h.get i hi).setRow vs) (grownBy_setRow w g vs)
theorem Mem.setCell {w0 w : World} {rs : List (Nat × Array Value)} (h : Mem w0 w rs) (i : Nat) {g : Nat} {cs : Array Value} (k : Nat) (v : Value) (hi : rs[i]? = some (g, cs)) : Mem w0 (w.setCell ⟨g, k, none⟩ v) (rs.set i (g, cs.setIfInBounds k v)) :=
  h.put i hi ((h.get i hi).setCell k v) (grownBy_setCell w g k v)
structure AggTy (P : Program) (ty : TypeId) (n : Nat) : Prop where
  agg : ∀ w, (isAgg ty).run P w = .ok true w
  size : (P.info? ty).map (·.size) = some n
theorem AggTy.mk' {P : Program} {ty : TypeId} {n : Nat} {d : TypeDesc} (hu : P.underlying ty = some d) (hd : (match d with | .struct _ | .array _ _ => true | _ => false) = true) (hs : (P.info? ty).map (·.size) = some n) : AggTy P ty n := by
  refine ⟨fun w => ?_, hs⟩
  unfold isAgg
  rw [Sem.run_bind, run_underlying hu w]
  cases d <;> simp_all
def splice (cs : Array Value) (off : Nat) (vs : Array Value) : Array Value := (cs.toList.take off ++ vs.toList ++ cs.toList.drop (off + vs.size)).toArray
theorem splice_full (cs vs : Array Value) (h : vs.size = cs.size) : splice cs 0 vs = vs := by
  have : cs.toList.drop vs.size = [] := List.drop_of_length_le (by simp; omega)
  simp [splice, this]
variable {P : Program}
theorem run_loadVar_part {w : World} {g off n : Nat} {ty : TypeId} {cs : Array Value} (hr : RowIs w g cs) (ht : AggTy P ty n) (hf : off + n ≤ cs.size) :
    (loadVar ty ⟨g, off, none⟩).run P w = .ok (.agg (cs.extract off (off + n))) w := by
  have hlen : (cs.extract off (off + n)).toList.length = n := by simp; omega
  have hl : (loadCells ⟨g, off, none⟩ (cs.extract off (off + n)).toList.length).run P w = .ok (cs.extract off (off + n)).toList.toArray w :=
    run_loadCells_list (P := P) w ⟨g, off, none⟩ (cs.extract off (off + n)).toList (fun j v hv => by
      rw [Addr.add_lit, hr.cell (off + j)]
      simp only [Array.getElem?_toList, Array.getElem?_extract] at hv
      split at hv
      · exact hv
      · cases hv)
  rw [hlen] at hl
  cases hq : P.info? ty with
  | none => have := ht.size; simp [hq] at this
  | some i =>
    have hs : i.size = n := by have := ht.size; simpa [hq] using this
    simp only [Array.toArray_toList] at hl
    simp [loadVar, Sem.run_bind, ht.agg, sizeOf, typeInfo, hq, hs, hl]
theorem run_storeVar_part {w : World} {g off n : Nat} {ty : TypeId} {cs vs : Array Value} (hr : RowIs w g cs) (ht : AggTy P ty n) (hv : vs.size = n) (hf : off + n ≤ cs.size) (h1 : ∀ v ∈ vs, v.oneCell' = true) :
    (storeVar ty ⟨g, off, none⟩ (.agg vs)).run P w = .ok () (w.setRow g (splice cs off vs)) := by
  obtain ⟨t, hr⟩ := hr
  have hst := run_storeCells_at P g off t vs.toList 0 cs w hr (by simp; omega) (fun v hv => h1 v (by simpa using hv))
  simp only [Nat.add_zero, Array.length_toList] at hst
  cases hq : P.info? ty with
  | none => have := ht.size; simp [hq] at this
  | some i =>
    have hs : i.size = n := by have := ht.size; simpa [hq] using this
    simp [storeVar, sizeOf, typeInfo, hq, Value.cells, hs, hv, hst, splice]
theorem wpList_run {ops : Array Oper} {rest : List Oper} {o : Oper} {a : Act} {w w' : World} {Q : Exit → Act → World → Prop} {v : Value} (hg : Region.wanted o (yielded ops a.tmps) = true)
    (hrun : (execOp a.eval o).run P w = .ok (.value v) w') (h : wpList P ops Q rest (a.put o.dst v) w') : wpList P ops Q (o :: rest) a w :=
  wpList_step fun _ hK => by rw [if_pos hg]; unfold Oper.wp; rw [hrun]; exact hK _ _ h
theorem wpList_skips {ops : Array Oper} {rest : List Oper} {o : Oper} {a : Act} {w w' : World} {Q : Exit → Act → World → Prop} (hg : Region.wanted o (yielded ops a.tmps) = true)
    (hrun : (execOp a.eval o).run P w = .ok .skip w') (h : wpList P ops Q rest (a.put o.dst undef) w') : wpList P ops Q (o :: rest) a w :=
  wpList_step fun _ hK => by rw [if_pos hg]; unfold Oper.wp; rw [hrun]; exact hK _ _ h
theorem exec_load {o : Oper} {a : Act} {w : World} {ty : TypeId} {x : Operand} (ho : o.op = .load ty x) {g off n : Nat} (hx : a.eval x = .pointer (some ⟨g, off, none⟩)) {cs : Array Value}
    (hr : RowIs w g cs) (ht : AggTy P ty n) (hf : off + n ≤ cs.size) : (execOp a.eval o).run P w = .ok (.value (.agg (cs.extract off (off + n)))) w := by
  unfold execOp
  simp only [ho, hx, Instr.loadAt, Instr.sureAddr, Sem.run_bind, Sem.run_pure, Result.andThen_ok, run_loadVar_part hr ht hf]
theorem exec_store {o : Oper} {a : Act} {w : World} {ty : TypeId} {x y : Operand} (ho : o.op = .store ty x y) {g off n : Nat} (hx : a.eval x = .pointer (some ⟨g, off, none⟩)) {vs : Array Value} (hy : a.eval y = .agg vs) {cs : Array Value}
    (hr : RowIs w g cs) (ht : AggTy P ty n) (hv : vs.size = n) (hf : off + n ≤ cs.size) (h1 : ∀ v ∈ vs, v.oneCell' = true) : (execOp a.eval o).run P w = .ok .skip (w.setRow g (splice cs off vs)) := by
  unfold execOp
  simp only [ho, hx, hy, Instr.storeAt, Instr.sureAddr, Sem.run_bind, Sem.run_pure, Result.andThen_ok, run_storeVar_part hr ht hv hf h1]
theorem run_loadVar_all {w : World} {g : Nat} {ty : TypeId} {cs : Array Value} (hr : RowIs w g cs) (ht : AggTy P ty cs.size) : (loadVar ty ⟨g, 0, none⟩).run P w = .ok (.agg cs) w := by
  have h := run_loadVar_part (P := P) (off := 0) hr ht (by omega)
  simpa using h
theorem results_agg1 {fn : Func} {p : Tmp} {ty : TypeId} (h : fn.results = #[.cell p ty]) {tmps : Array Value} {w : World} {g : Nat} {cs : Array Value}
    (hp : tmps.getD p undef = .pointer (some ⟨g, 0, none⟩)) (hr : RowIs w g cs) (ht : AggTy P ty cs.size) : (results fn tmps).run P w = .ok (.agg cs) w := by
  have hp' : tmps[p]?.getD undef = .pointer (some ⟨g, 0, none⟩) := by simpa using hp
  simp [results, h, hp', asAddr, run_loadVar_all hr ht]
theorem results_agg2 {fn : Func} {p t : Tmp} {ty : TypeId} (h : fn.results = #[.cell p ty, .tmp t]) {tmps : Array Value} {w : World} {g : Nat} {cs : Array Value}
    (hp : tmps.getD p undef = .pointer (some ⟨g, 0, none⟩)) (hr : RowIs w g cs) (ht : AggTy P ty cs.size) : (results fn tmps).run P w = .ok (.tuple #[.agg cs, tmps.getD t undef]) w := by
  have hp' : tmps[p]?.getD undef = .pointer (some ⟨g, 0, none⟩) := by simpa using hp
  simp [results, h, hp', asAddr, run_loadVar_all hr ht]
theorem results_agg3 {fn : Func} {p t u : Tmp} {ty : TypeId} (h : fn.results = #[.cell p ty, .tmp t, .tmp u]) {tmps : Array Value} {w : World} {g : Nat} {cs : Array Value}
    (hp : tmps.getD p undef = .pointer (some ⟨g, 0, none⟩)) (hr : RowIs w g cs) (ht : AggTy P ty cs.size) : (results fn tmps).run P w = .ok (.tuple #[.agg cs, tmps.getD t undef, tmps.getD u undef]) w := by
  have hp' : tmps[p]?.getD undef = .pointer (some ⟨g, 0, none⟩) := by simpa using hp
  simp [results, h, hp', asAddr, run_loadVar_all hr ht]
def gi (l : List Int) (i : Nat) : Int := l.getD i 0
def vs (k : IntKind) (l : List Int) : List Value := l.map (Value.int k)
def B (l : List Int) : Array Value := (vs .u8 l).toArray
def I (l : List Int) : Array Value := (vs .i64 l).toArray
theorem length_vs (k : IntKind) (l : List Int) : (vs k l).length = l.length := by simp [vs]
theorem size_B (l : List Int) : (B l).size = l.length := by simp [B, vs]
theorem size_I (l : List Int) : (I l).size = l.length := by simp [I, vs]
theorem vs_one (k : IntKind) (l : List Int) : ∀ v ∈ vs k l, v.oneCell' = true := by
  intro v hv
  obtain ⟨n, _, rfl⟩ := List.mem_map.1 hv
  rfl
theorem B_one (l : List Int) : ∀ v ∈ B l, v.oneCell' = true := by
  intro v hv
  exact vs_one .u8 l v (by simpa [B] using hv)
theorem I_one (l : List Int) : ∀ v ∈ I l, v.oneCell' = true := by
  intro v hv
  exact vs_one .i64 l v (by simpa [I] using hv)
theorem get_vs (k : IntKind) (l : List Int) (i : Nat) (h : i < l.length) : (vs k l)[i]? = some (.int k (gi l i)) := by simp [vs, gi, h, List.getD]
theorem get_B (l : List Int) (i : Nat) (h : i < l.length) : (B l)[i]? = some (.int .u8 (gi l i)) := by simpa [B] using get_vs .u8 l i h
theorem set_B (l : List Int) (i : Nat) (x : Int) : (B l).setIfInBounds i (.int .u8 x) = B (l.set i x) := by
  apply Array.ext'
  simp [B, vs, List.map_set]
theorem set_I (l : List Int) (i : Nat) (x : Int) : (I l).setIfInBounds i (.int .i64 x) = I (l.set i x) := by
  apply Array.ext'
  simp [I, vs, List.map_set]
theorem run_eqItems_ints {w : World} (d : Nat) {e : TypeId} {k : IntKind} (he : P.underlying e = some (.int k)) : ∀ (is : List Nat) (l m : List Int), (∀ i ∈ is, i < l.length ∧ i < m.length) →
    (Op.eqItems (d + 1) e 1 (vs k l).toArray (vs k m).toArray is).run P w = .ok (is.all fun i => gi l i == gi m i) w
  | [], _, _, _ => by simp [Op.eqItems]
  | i :: is, l, m, h => by
    obtain ⟨h1, h2⟩ := h i (by simp)
    have ih := run_eqItems_ints (w := w) d he is l m (fun j hj => h j (by simp [hj]))
    have pl : (part e (vs k l).toArray (i * 1)).run P w = .ok (.int k (gi l i)) w := by
      have := get_vs k l i h1
      simp [part, isAgg, run_underlying he, this]
    have pm : (part e (vs k m).toArray (i * 1)).run P w = .ok (.int k (gi m i)) w := by
      have := get_vs k m i h2
      simp [part, isAgg, run_underlying he, this]
    simp only [Op.eqItems, Sem.run_bind, pl, pm, run_equalIn_int w d e k k _ _ he, Result.andThen_ok, List.all_cons]
    cases hb : (gi l i == gi m i)
    · simp
    · simpa using ih
theorem all_getD_eq : ∀ (l m : List Int), l.length = m.length → ((List.range l.length).all fun i => gi l i == gi m i) = (l == m)
  | [], [], _ => rfl
  | x :: xs, y :: ys, h => by
    have ih := all_getD_eq xs ys (by simpa using h)
    rw [List.length_cons, List.range_succ_eq_map, List.all_cons, List.all_map]
    simp only [gi] at ih ⊢
    simp only [List.getD_cons_zero, Function.comp_def, List.getD_cons_succ, ih]
    simp [List.cons_beq_cons]
  | [], _ :: _, h => by simp at h
  | _ :: _, [], h => by simp at h
theorem run_equalIn_ints {w : World} (d : Nat) {t e : TypeId} {n : Nat} {k : IntKind} {i : TypeInfo} (hu : P.underlying t = some (.array n e)) (he : P.underlying e = some (.int k)) (hi : P.info? e = some i) (hc : P.cellsOf e = 1)
    (l m : List Int) (hl : l.length = n) (hm : m.length = n) : (Op.equalIn (d + 2) t (.agg (vs k l).toArray) (.agg (vs k m).toArray)).run P w = .ok (l == m) w := by
  rw [show d + 2 = (d + 1) + 1 from rfl, run_equalIn_array w (d + 1) _ _ hu hi, hc, run_eqItems_ints d he (List.range n) l m (fun j hj => by have := List.mem_range.1 hj; omega), ← all_getD_eq l m (by omega), hl]
theorem run_eql_ints {w : World} {t e : TypeId} {n : Nat} {k : IntKind} {i : TypeInfo} (hu : P.underlying t = some (.array n e)) (he : P.underlying e = some (.int k)) (hi : P.info? e = some i) (hc : P.cellsOf e = 1)
    (l m : List Int) (hl : l.length = n) (hm : m.length = n) : (binOp .eql t (.agg (vs k l).toArray) (.agg (vs k m).toArray)).run P w = .ok (.bool (l == m)) w := by
  rw [run_eql_struct, run_equalIn_ints 9998 hu he hi hc l m hl hm]
  rfl
section steps
variable {ops : Array Oper} {rest : List Oper} {o : Oper} {a : Act} {w0 w : World} {Q : Exit → Act → World → Prop} {rs : List (Nat × Array Value)}
theorem wpList_box_m (hm : Mem w0 w rs) (hgd : Region.wanted o (yielded ops a.tmps) = true) {ty : TypeId} {x : Operand} (ho : o.op = .box ty x) {cs : Array Value} (hx : a.eval x = .agg cs)
    (h : ∀ w' g, Mem w0 w' ((g, cs) :: rs) → wpList P ops Q rest (a.put o.dst (.pointer (some ⟨g, 0, none⟩))) w') : wpList P ops Q (o :: rest) a w := by
  have hrun : (execOp a.eval o).run P w = .ok (.value (.pointer (some ⟨w.heap.size, 0, none⟩))) (w.alloc (.cells cs ty)) := by
    unfold execOp
    simp only [ho, hx, Instr.box, newVar, newRow, Value.cells, Sem.run_bind, Sem.run_pure]
    rfl
  exact wpList_run hgd hrun (h _ _ (hm.alloc cs ty))
theorem wpList_alloc_m (hm : Mem w0 w rs) (hgd : Region.wanted o (yielded ops a.tmps) = true) {ty : TypeId} (ho : o.op = .alloc ty) {cs : Array Value} (hz : ∀ w, (zeroValue ty).run P w = .ok (.agg cs) w)
    (h : ∀ w' g, Mem w0 w' ((g, cs) :: rs) → wpList P ops Q rest (a.put o.dst (.pointer (some ⟨g, 0, none⟩))) w') : wpList P ops Q (o :: rest) a w := by
  have hrun : (execOp a.eval o).run P w = .ok (.value (.pointer (some ⟨w.heap.size, 0, none⟩))) (w.alloc (.cells cs ty)) := by
    unfold execOp
    simp only [ho, Instr.alloc, newVar, newRow, Value.cells, Sem.run_bind, Sem.run_pure, hz, Result.andThen_ok]
    rfl
  exact wpList_run hgd hrun (h _ _ (hm.alloc cs ty))
theorem wpList_load_all (hgd : Region.wanted o (yielded ops a.tmps) = true) {ty : TypeId} {x : Operand} (ho : o.op = .load ty x) {g : Nat} (hx : a.eval x = .pointer (some ⟨g, 0, none⟩)) {cs : Array Value}
    (hr : RowIs w g cs) (ht : AggTy P ty cs.size) (h : wpList P ops Q rest (a.put o.dst (.agg cs)) w) : wpList P ops Q (o :: rest) a w := by
  have hrun := exec_load (P := P) (off := 0) ho hx hr ht (by omega)
  rw [show cs.extract 0 (0 + cs.size) = cs by simp] at hrun
  exact wpList_run hgd hrun h
theorem wpList_store_m (i : Nat) (hm : Mem w0 w rs) (hgd : Region.wanted o (yielded ops a.tmps) = true) {ty : TypeId} {x y : Operand} (ho : o.op = .store ty x y) {g : Nat} (hx : a.eval x = .pointer (some ⟨g, 0, none⟩)) {vs cs : Array Value} (hy : a.eval y = .agg vs)
    (hi : rs[i]? = some (g, cs)) (ht : AggTy P ty vs.size) (hs : vs.size = cs.size) (h1 : ∀ v ∈ vs, v.oneCell' = true)
    (h : ∀ w', Mem w0 w' (rs.set i (g, vs)) → wpList P ops Q rest (a.put o.dst undef) w') : wpList P ops Q (o :: rest) a w := by
  have hrun := exec_store (P := P) (off := 0) ho hx hy (hm.get i hi) ht rfl (by omega) h1
  rw [splice_full cs vs hs] at hrun
  exact wpList_skips hgd hrun (h _ (hm.setRow i vs hi))
def OneTy (P : Program) (ty : TypeId) : Prop := (∀ w, (isAgg ty).run P w = .ok false w) ∧ (P.info? ty).map (·.size) = some 1
theorem exec_loadcell {ty : TypeId} {x : Operand} (ho : o.op = .load ty x) {g off : Nat} (hx : a.eval x = .pointer (some ⟨g, off, none⟩)) {v : Value}
    (ht : OneTy P ty) (hc : w.cell? ⟨g, off, none⟩ = some v) : (execOp a.eval o).run P w = .ok (.value v) w := by
  unfold execOp
  simp only [ho, hx, Instr.loadAt, Instr.sureAddr, Sem.run_bind, Sem.run_pure, Result.andThen_ok, loadVar, ht.1, Bool.false_eq_true, if_false, run_load, hc]
theorem wpList_storecell_m (i : Nat) (hm : Mem w0 w rs) (hgd : Region.wanted o (yielded ops a.tmps) = true) {ty : TypeId} {x y : Operand} (ho : o.op = .store ty x y) {g off : Nat} (hx : a.eval x = .pointer (some ⟨g, off, none⟩)) {v : Value} (hy : a.eval y = v) {cs ns : Array Value}
    (hi : rs[i]? = some (g, cs)) (ht : OneTy P ty) (hf : off < cs.size) (hc : v.cells = #[v]) (h1 : v.oneCell' = true) (hn : cs.setIfInBounds off v = ns)
    (h : ∀ w', Mem w0 w' (rs.set i (g, ns)) → wpList P ops Q rest (a.put o.dst undef) w') : wpList P ops Q (o :: rest) a w := by
  have hr := hm.get i hi
  have hcell : w.cell? ⟨g, off, none⟩ = some cs[off] := by rw [hr.cell]; simp [hf]
  have hst : (store ⟨g, off, none⟩ v).run P w = .ok () (w.setCell ⟨g, off, none⟩ v) := by
    rw [run_store P w _ v _ h1, hcell]
    simp [hr.free off]
  have hrun : (execOp a.eval o).run P w = .ok .skip (w.setCell ⟨g, off, none⟩ v) := by
    cases hq : P.info? ty with
    | none => have := ht.2; simp [hq] at this
    | some i =>
      have hs : i.size = 1 := by have := ht.2; simpa [hq] using this
      unfold execOp
      simp only [ho, hx, hy, Instr.storeAt, Instr.sureAddr, Sem.run_bind, Sem.run_pure, Result.andThen_ok, storeVar, hc, sizeOf, typeInfo, run_program, hq, hs]
      simp [storeCells, Addr.add_zero', hst, Result.andThen]
  refine wpList_skips hgd hrun (h _ ?_)
  rw [← hn]
  exact hm.setCell i off v hi
end steps
theorem exec_load_all {o : Oper} {a : Act} {w : World} {ty : TypeId} {x : Operand} (ho : o.op = .load ty x) {g : Nat} (hx : a.eval x = .pointer (some ⟨g, 0, none⟩)) {cs : Array Value}
    (hr : RowIs w g cs) (ht : AggTy P ty cs.size) : (execOp a.eval o).run P w = .ok (.value (.agg cs)) w := by
  have h := exec_load (P := P) (off := 0) ho hx hr ht (by omega)
  rwa [show cs.extract 0 (0 + cs.size) = cs by simp] at h
theorem exec_eql_ints {o : Oper} {a : Act} {w : World} {t t' e : TypeId} {x y : Operand} {n : Nat} {k : IntKind} {i : TypeInfo} (ho : o.op = .binOp .eql t x y t') {l m : List Int} (hx : a.eval x = .agg (vs k l).toArray) (hy : a.eval y = .agg (vs k m).toArray)
    (hgt : P.eqGuardType P.depth t = false) (hu : P.underlying t = some (.array n e)) (he : P.underlying e = some (.int k)) (hi : P.info? e = some i) (hc : P.cellsOf e = 1) (hl : l.length = n) (hm : m.length = n) :
    (execOp a.eval o).run P w = .ok (.value (.bool (l == m))) w := by
  unfold execOp
  simp only [ho, hx, hy, Sem.run_bind, run_eqGuard_agg w .eql t x y _ _ hgt, Result.andThen_ok, run_eql_ints hu he hi hc l m hl hm, Sem.run_pure]
theorem exec_loadcell' {o : Oper} {a : Act} {w : World} {ty : TypeId} {x : Operand} (ho : o.op = .load ty x) {g off : Nat} (hx : a.eval x = .pointer (some ⟨g, off, none⟩)) {cs : Array Value} {v : Value}
    (hr : RowIs w g cs) (ht : OneTy P ty) (hv : cs[off]? = some v) : (execOp a.eval o).run P w = .ok (.value v) w := exec_loadcell ho hx ht ((hr.cell off).trans hv)
theorem exec_index {o : Oper} {a : Act} {w : World} {ty e : TypeId} {x y : Operand} {n i : Nat} {k : IntKind} {cs : Array Value} {v : Value} (ho : o.op = .index ty x y) (hx : a.eval x = .agg cs) (hy : a.eval y = .int k (i : Nat))
    (hu : P.underlying ty = some (.array n e)) (he : OneTy P e) (hi : i < n) (hv : cs[i]? = some v) : (execOp a.eval o).run P w = .ok (.value v) w := by
  cases hq : P.info? e with
  | none => have := he.2; simp [hq] at this
  | some inf =>
    have hs : inf.size = 1 := by have := he.2; simpa [hq] using this
    have hp : (part e cs i).run P w = .ok v w := by simp [part, Sem.run_bind, he.1, hv]
    unfold execOp
    simp only [ho, hx, hy, Instr.index, asIntOf, Sem.run_bind, Sem.run_pure, Result.andThen_ok, run_underlying hu]
    rw [if_pos (by omega)]
    simp [sizeOf, typeInfo, hq, hs, hp]
end Go.Proofs.YtkpbhdhkdonghaaGreat

namespace Go.Proofs.YtkpbhdhkdonghaaGreat
open Go Go.RowKit
def zeros : List Int := List.replicate 256 0
theorem len_zeros : zeros.length = 256 := List.length_replicate ..
def newUp (k : Nat) : List Int := (List.range 256).map (fun (i : Nat) => if i < k then (i : Int) else 0)
def new : List Int := newUp 256
theorem len_newUp (k : Nat) : (newUp k).length = 256 := by rw [newUp, List.length_map, List.length_range]
theorem len_new : new.length = 256 := len_newUp 256
theorem newUp_step (k : Nat) : (newUp k).set k k = newUp (k + 1) := by
  apply List.ext_getElem?
  intro i
  simp only [newUp, List.getElem?_set, List.getElem?_map, List.length_map, List.length_range]
  by_cases h : k = i
  · subst h
    by_cases h2 : k < 256
    · simp [h2]
    · simp [h2]
  · simp only [h, if_false]
    by_cases h2 : i < 256
    · rw [List.getElem?_range h2]
      simp only [Option.map_some, Option.some.injEq]
      by_cases h3 : i < k
      · rw [if_pos h3, if_pos (by omega)]
      · rw [if_neg h3, if_neg (by omega)]
    · rw [List.getElem?_eq_none (by rw [List.length_range]; omega)]
      rfl
def front (l : List Int) (k : Nat) : List Int := gi l k :: l.eraseIdx k
def takeL (l : List Int) (p : Int) : List Int := if 0 ≤ p ∧ p < 256 then front l p.toNat else l
def takeC (l : List Int) (p : Int) : Int := if 0 ≤ p ∧ p < 256 then gi l p.toNat else 0
def pos (l : List Int) (c : Int) : Int := if l.findIdx (· == c) < l.length then (l.findIdx (· == c) : Int) else -1
def one (k : Nat) : List Int := (List.range 256).map (fun (i : Nat) => if i < k then (1 : Int) else 0)
def ones : List Int := one 256
theorem len_one (k : Nat) : (one k).length = 256 := by rw [one, List.length_map, List.length_range]
theorem one_step (k : Nat) : (one k).set k 1 = one (k + 1) := by
  apply List.ext_getElem?
  intro i
  simp only [one, List.getElem?_set, List.getElem?_map, List.length_map, List.length_range]
  by_cases h : k = i
  · subst h
    by_cases h2 : k < 256
    · simp [h2]
    · simp [h2]
  · simp only [h, if_false]
    by_cases h2 : i < 256
    · rw [List.getElem?_range h2]
      simp only [Option.map_some, Option.some.injEq]
      by_cases h3 : i < k
      · rw [if_pos h3, if_pos (by omega)]
      · rw [if_neg h3, if_neg (by omega)]
    · rw [List.getElem?_eq_none (by rw [List.length_range]; omega)]
      rfl
def seenUp (l : List Int) (k : Nat) : List Int := (List.range 256).map (fun (i : Nat) => if (l.take k).contains (i : Int) then (1 : Int) else 0)
theorem len_seenUp (l : List Int) (k : Nat) : (seenUp l k).length = 256 := by rw [seenUp, List.length_map, List.length_range]
theorem seenUp_step (l : List Int) (k : Nat) (hk : k < l.length) (hb : 0 ≤ gi l k) : (seenUp l k).set (gi l k).toNat 1 = seenUp l (k + 1) := by
  have e : l.take (k + 1) = l.take k ++ [gi l k] := by
    rw [List.take_succ_eq_append_getElem hk]
    simp [gi, List.getD_eq_getElem?_getD, List.getElem?_eq_getElem hk]
  apply List.ext_getElem?
  intro i
  simp only [seenUp, e, List.getElem?_set, List.getElem?_map, List.length_map, List.length_range]
  by_cases h2 : i < 256
  · rw [List.getElem?_range h2]
    by_cases h : (gi l k).toNat = i
    · rw [if_pos h, if_pos (by omega)]
      have : (i : Int) = gi l k := by omega
      simp [this]
    · rw [if_neg h]
      have : ¬ (i : Int) = gi l k := by omega
      simp [this]
  · rw [List.getElem?_eq_none (show (List.range 256).length ≤ i by rw [List.length_range]; omega)]
    split
    · rw [if_neg (by omega)]; rfl
    · rfl
def vld (l : List Int) : Bool := seenUp l 256 == ones
end Go.Proofs.YtkpbhdhkdonghaaGreat

namespace Go.Proofs.YtkpbhdhkdonghaaGreat
open Go Go.RowKit
section
variable {α : Type} [DecidableEq α]
def nub : List α → List α
  | [] => []
  | a :: l => if a ∈ l then nub l else a :: nub l
theorem mem_nub : ∀ {l : List α} {x : α}, x ∈ nub l ↔ x ∈ l
  | [], x => Iff.rfl
  | a :: l, x => by
    rw [nub]
    split
    · rename_i h
      rw [mem_nub, List.mem_cons]
      exact ⟨.inr, fun h1 => h1.elim (fun e => e ▸ h) id⟩
    · rw [List.mem_cons, List.mem_cons, mem_nub]
theorem nodup_nub : ∀ l : List α, (nub l).Nodup
  | [] => List.nodup_nil
  | a :: l => by
    rw [nub]
    split
    · exact nodup_nub l
    · rename_i h
      exact List.nodup_cons.2 ⟨fun h1 => h (mem_nub.1 h1), nodup_nub l⟩
theorem length_nub_le : ∀ l : List α, (nub l).length ≤ l.length
  | [] => Nat.le_refl _
  | a :: l => by
    have := length_nub_le l
    rw [nub]
    split <;> simp <;> omega
theorem nodup_of_nub : ∀ {l : List α}, (nub l).length = l.length → l.Nodup
  | [], _ => List.nodup_nil
  | a :: l, h => by
    have hl := length_nub_le l
    rw [nub] at h
    split at h
    · simp at h; omega
    · rename_i ha
      simp at h
      exact List.nodup_cons.2 ⟨ha, nodup_of_nub h⟩
theorem nub_of_nodup : ∀ {l : List α}, l.Nodup → nub l = l
  | [], _ => rfl
  | a :: l, h => by
    rw [List.nodup_cons] at h
    rw [nub, if_neg h.1, nub_of_nodup h.2]
omit [DecidableEq α] in
theorem countP_same (p : α → Bool) {l m : List α} (hl : l.Nodup) (hm : m.Nodup) (h : ∀ x, x ∈ l ↔ x ∈ m) : l.countP p = m.countP p :=
  ((List.perm_ext_iff_of_nodup hl hm).2 h).countP_eq p
omit [DecidableEq α] in
theorem length_same {l m : List α} (hl : l.Nodup) (hm : m.Nodup) (h : ∀ x, x ∈ l ↔ x ∈ m) : l.length = m.length :=
  ((List.perm_ext_iff_of_nodup hl hm).2 h).length_eq
end
abbrev Pr := Int × Int
def plt (p q : Pr) : Bool := decide (p.1 < q.1) || (decide (p.1 = q.1) && decide (p.2 < q.2))
theorem plt_irrefl (p : Pr) : plt p p = false := by simp [plt]
theorem plt_iff (p q : Pr) : plt p q = true ↔ p.1 < q.1 ∨ p.1 = q.1 ∧ p.2 < q.2 := by simp [plt]
theorem plt_trans {p q r : Pr} (h1 : plt p q = true) (h2 : plt q r = true) : plt p r = true := by
  rw [plt_iff] at *; omega
theorem plt_total (p q : Pr) : plt p q = true ∨ p = q ∨ plt q p = true := by
  obtain ⟨a, b⟩ := p
  obtain ⟨c, d⟩ := q
  rw [plt_iff, plt_iff]
  by_cases h : a = c
  · by_cases h2 : b = d
    · exact .inr (.inl (by rw [h, h2]))
    · simp only; omega
  · simp only; omega
def rk (l : List Pr) (p : Pr) : Nat := (nub l).countP (plt · p)
def many (l : List Pr) : Nat := (nub l).length
theorem countP_lt {α : Type} (p q : α → Bool) : ∀ (l : List α) (_ : ∀ x ∈ l, p x = true → q x = true) (_ : ∃ x ∈ l, p x = false ∧ q x = true), l.countP p < l.countP q
  | [], _, h => by obtain ⟨x, h, _⟩ := h; cases h
  | a :: l, hs, ⟨x, hx, h1, h2⟩ => by
    rw [List.countP_cons, List.countP_cons]
    have hle : l.countP p ≤ l.countP q := List.countP_mono_left fun y hy => hs y (List.mem_cons_of_mem _ hy)
    rcases List.mem_cons.1 hx with rfl | hx
    · rw [h1, h2]; simp; omega
    · have := countP_lt p q l (fun y hy => hs y (List.mem_cons_of_mem _ hy)) ⟨x, hx, h1, h2⟩
      have ha := hs a (List.mem_cons_self ..)
      cases hp : p a
      · simp; omega
      · rw [ha hp]; simp; omega
theorem rk_lt {l : List Pr} {p q : Pr} (hp : p ∈ l) (h : plt p q = true) : rk l p < rk l q :=
  countP_lt _ _ _ (fun _ _ hx => plt_trans hx h) ⟨p, mem_nub.2 hp, plt_irrefl p, h⟩
theorem rk_iff {l : List Pr} {p q : Pr} (hp : p ∈ l) (hq : q ∈ l) : rk l p < rk l q ↔ plt p q = true := by
  refine ⟨fun h => ?_, rk_lt hp⟩
  rcases plt_total p q with h1 | rfl | h1
  · exact h1
  · omega
  · have := rk_lt hq h1; omega
theorem rk_eq {l : List Pr} {p q : Pr} (hp : p ∈ l) (hq : q ∈ l) : rk l p = rk l q ↔ p = q := by
  refine ⟨fun h => ?_, fun h => by rw [h]⟩
  rcases plt_total p q with h1 | h1 | h1
  · have := rk_lt hp h1; omega
  · exact h1
  · have := rk_lt hq h1; omega
theorem rk_bound {l : List Pr} {p : Pr} (hp : p ∈ l) : rk l p < many l := by
  have h1 : rk l p < (nub l).countP (fun _ => true) := countP_lt _ _ _ (fun _ _ _ => rfl) ⟨p, mem_nub.2 hp, plt_irrefl p, rfl⟩
  have h2 : (nub l).countP (fun _ => true) = (nub l).length := by rw [List.countP_eq_length]; intro _ _; rfl
  rw [h2] at h1
  exact h1
theorem many_le (l : List Pr) : many l ≤ l.length := length_nub_le l
theorem nub_map {l : List Pr} {f : Pr → Pr} (hf : ∀ p ∈ l, ∀ q ∈ l, f p = f q → p = q) : nub (l.map f) = (nub l).map f := by
  induction l with
  | nil => rfl
  | cons a l ih =>
    have h2 := ih fun p hp q hq => hf p (List.mem_cons_of_mem _ hp) q (List.mem_cons_of_mem _ hq)
    rw [List.map_cons, nub, nub, h2]
    have : f a ∈ l.map f ↔ a ∈ l := by
      refine ⟨fun h => ?_, fun h => List.mem_map_of_mem h⟩
      obtain ⟨b, hb, he⟩ := List.mem_map.1 h
      exact hf b (List.mem_cons_of_mem _ hb) a (List.mem_cons_self ..) he ▸ hb
    by_cases ha : a ∈ l
    · rw [if_pos ha, if_pos (this.2 ha)]
    · rw [if_neg ha, if_neg (fun h => ha (this.1 h)), List.map_cons]
theorem inj_of_mono {l : List Pr} {f : Pr → Pr} (hf : ∀ p ∈ l, ∀ q ∈ l, plt (f p) (f q) = plt p q) : ∀ p ∈ l, ∀ q ∈ l, f p = f q → p = q := by
  intro p hp q hq h
  rcases plt_total p q with h1 | h1 | h1
  · rw [← hf p hp q hq, h, plt_irrefl] at h1; cases h1
  · exact h1
  · rw [← hf q hq p hp, h, plt_irrefl] at h1; cases h1
theorem rk_map {l : List Pr} {f : Pr → Pr} (hf : ∀ p ∈ l, ∀ q ∈ l, plt (f p) (f q) = plt p q) {p : Pr} (hp : p ∈ l) : rk (l.map f) (f p) = rk l p := by
  rw [rk, nub_map (inj_of_mono hf), List.countP_map, rk]
  exact List.countP_congr fun x hx => by simp [hf x (mem_nub.1 hx) p hp]
theorem many_map {l : List Pr} {f : Pr → Pr} (hf : ∀ p ∈ l, ∀ q ∈ l, plt (f p) (f q) = plt p q) : many (l.map f) = many l := by
  rw [many, nub_map (inj_of_mono hf), List.length_map, many]
def rks (l : List Pr) : List Int := l.map fun p => (rk l p : Int)
def beg (t : List Int) : List Pr := t.map (fun c => (1 + c, 0)) ++ [(0, 0)]
def two (r : List Int) (w : Nat) : List Pr := (List.range r.length).map fun i => (gi r i, if i + w < r.length then gi r (i + w) else -1)
def go2 : Nat → Nat → List Pr → List Int
  | 0, _, l => rks l
  | f + 1, w, l => if many l < l.length then go2 f (w * 2) (two (rks l) w) else rks l
def rnk (t : List Int) : List Int := go2 (t.length + 1) 1 (beg t)
theorem rks_map {l : List Pr} {f : Pr → Pr} (hf : ∀ p ∈ l, ∀ q ∈ l, plt (f p) (f q) = plt p q) : rks (l.map f) = rks l := by
  rw [rks, List.map_map, rks]
  exact List.map_congr_left fun p hp => by simp [rk_map hf hp]
theorem rnk_map (t : List Int) (f : Int → Int) (hf : ∀ a ∈ t, ∀ b ∈ t, (f a < f b ↔ a < b)) (h0 : ∀ a ∈ t, 0 ≤ a) (h1 : ∀ a ∈ t, 0 ≤ f a) : rnk (t.map f) = rnk t := by
  have he : beg (t.map f) = (beg t).map fun p => (if p.1 = 0 then 0 else 1 + f (p.1 - 1), p.2) := by
    rw [beg, beg, List.map_append, List.map_map, List.map_map]
    congr 1
    exact List.map_congr_left fun a ha => by
      have := h0 a ha
      simp only [Function.comp_apply]
      rw [if_neg (by omega), show 1 + a - 1 = a by omega]
  have hm : ∀ p ∈ beg t, ∀ q ∈ beg t, plt ((fun p : Pr => ((if p.1 = 0 then 0 else 1 + f (p.1 - 1), p.2) : Pr)) p) ((fun p : Pr => ((if p.1 = 0 then 0 else 1 + f (p.1 - 1), p.2) : Pr)) q) = plt p q := by
    intro p hp q hq
    rw [beg] at hp hq
    rw [Bool.eq_iff_iff, plt_iff, plt_iff]
    rcases List.mem_append.1 hp with hp | hp <;> rcases List.mem_append.1 hq with hq | hq
    · obtain ⟨a, ha, rfl⟩ := List.mem_map.1 hp
      obtain ⟨b, hb, rfl⟩ := List.mem_map.1 hq
      have h2 := h0 a ha
      have h3 := h0 b hb
      have h4 := hf a ha b hb
      have h5 := hf b hb a ha
      simp only
      rw [if_neg (by omega), if_neg (by omega), show 1 + a - 1 = a by omega, show 1 + b - 1 = b by omega]
      omega
    · obtain ⟨a, ha, rfl⟩ := List.mem_map.1 hp
      obtain rfl := List.mem_singleton.1 hq
      have h2 := h0 a ha
      have h3 := h1 a ha
      simp only
      rw [if_neg (by omega), show 1 + a - 1 = a by omega]
      simp; omega
    · obtain ⟨b, hb, rfl⟩ := List.mem_map.1 hq
      obtain rfl := List.mem_singleton.1 hp
      have h2 := h0 b hb
      have h3 := h1 b hb
      simp only
      rw [if_neg (show ¬ (1 + b = 0) by omega), show 1 + b - 1 = b by omega]
      simp; omega
    · obtain rfl := List.mem_singleton.1 hp
      obtain rfl := List.mem_singleton.1 hq
      simp
  have hr : rks (beg (t.map f)) = rks (beg t) := by rw [he, rks_map hm]
  have hn : many (beg (t.map f)) = many (beg t) := by rw [he, many_map hm]
  have hl : (beg (t.map f)).length = (beg t).length := by rw [he, List.length_map]
  rw [rnk, rnk, List.length_map, go2, go2, hr, hn, hl]
end Go.Proofs.YtkpbhdhkdonghaaGreat
