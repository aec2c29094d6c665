/-
  Part 2 of the proof.
-/
import Derived.Laws.AppendOwnNone
import Derived.Test.YtkpbhdhkdonghaaGreatT01
set_option linter.all false
namespace Go.Proofs.YtkpbhdhkdonghaaGreat
open Go Go.RowKit
structure ElTy (P : Program) (t e : TypeId) (i : TypeInfo) (z : Value) (bytes : Nat) : Prop where
  under : P.underlying t = some (.slice e)
  info : P.info? e = some i
  zero : i.zero = some z
  size : i.size = 1
  bytes : i.bytes = bytes
  cell : z.cells = #[z]
theorem ElTy.ex {P : Program} {t e : TypeId} {z : Value} {bytes : Nat} (hu : P.underlying t = some (.slice e)) (h : (P.info? e).map (fun i => (i.zero, i.size, i.bytes)) = some (some z, 1, bytes)) (hc : z.cells = #[z]) : ∃ i, ElTy P t e i z bytes := by
  cases hi : P.info? e with
  | none => rw [hi] at h; cases h
  | some i =>
    rw [hi] at h
    simp only [Option.map_some, Option.some.injEq, Prod.mk.injEq] at h
    exact ⟨i, hu, hi, h.1, h.2.1, h.2.2, hc⟩
abbrev Sl := Value × TypeId × List Value
def pairsOf : List Value → List (Value × Value)
  | k :: v :: r => (k, v) :: pairsOf r
  | _ => []
def MapIs (w : World) (r : Nat) (xs : List Value) : Prop := ∃ es clock, w.heap[r]? = some (.map es clock) ∧ (∀ e ∈ es.toList, (e.key, e.val) ∈ pairsOf xs) ∧ (∀ p ∈ pairsOf xs, ∃ e ∈ es.toList, e.key = p.1) ∧ es.size = (pairsOf xs).length
def mapT : Nat := 1000
structure SlIs (w : World) (base : Nat) (s : Sl) : Prop where
  sl : s.2.1 < mapT → w.ownsRow base s.2.1 1 s.1 s.2.2.length s.2.2
  mp : ¬ s.2.1 < mapT → base ≤ s.2.1 - mapT ∧ MapIs w (s.2.1 - mapT) s.2.2 ∧ s.1 = .slice none 0 0
theorem MapIs.lt {w : World} {r : Nat} {xs : List Value} (h : MapIs w r xs) : r < w.heap.size := by
  obtain ⟨es, c, h1, _⟩ := h
  exact (Array.getElem?_eq_some_iff.1 h1).1
theorem MapIs.block {w w' : World} {r : Nat} {xs : List Value} (h : MapIs w r xs) (hb : w'.heap[r]? = w.heap[r]?) : MapIs w' r xs := by
  obtain ⟨es, c, h1, h2⟩ := h
  exact ⟨es, c, hb.trans h1, h2⟩
theorem SlIs.lt {w : World} {base : Nat} {s : Sl} (h : SlIs w base s) : ∀ k, s.1.ownBlock = some k → base ≤ k ∧ k < w.heap.size := by
  intro k hk
  by_cases hq : s.2.1 < mapT
  · exact (h.sl hq).lt k hk
  · rw [(h.mp hq).2.2] at hk; cases hk
theorem SlIs.cells {w : World} {base : Nat} {s : Sl} (h : SlIs w base s) : ∀ k, s.1.ownBlock = some k → ∃ cs t f, w.heap[k]? = some (.cells cs t f) := by
  intro k hk
  by_cases hq : s.2.1 < mapT
  · rcases (h.sl hq).2 with ⟨hv, _⟩ | ⟨g, cap, cur, hv, _, hg, _⟩
    · rw [hv] at hk; cases hk
    · rw [hv] at hk; cases hk; exact ⟨_, _, _, hg⟩
  · rw [(h.mp hq).2.2] at hk; cases hk
theorem SlIs.blocks {w w' : World} {base : Nat} {s : Sl} (h : SlIs w base s) (hb : ∀ k, k < w.heap.size → w'.heap[k]? = w.heap[k]?) : SlIs w' base s := by
  refine ⟨fun hq => ?_, fun hq => ?_⟩
  · have h1 := h.sl hq
    refine ⟨h1.1, ?_⟩
    rcases h1.2 with hn | ⟨g, cap, cur, hv, hg, hh, rest⟩
    · exact .inl hn
    · exact .inr ⟨g, cap, cur, hv, hg, (hb g (Array.getElem?_eq_some_iff.1 hh).1).trans hh, rest⟩
  · obtain ⟨h1, h2, h3⟩ := h.mp hq
    exact ⟨h1, h2.block (hb _ h2.lt), h3⟩
theorem SlIs.alloc {w : World} {base : Nat} {s : Sl} (h : SlIs w base s) (o : Obj) : SlIs (w.alloc o) base s := h.blocks (fun _ hk => heap_alloc_old w o hk)
theorem SlIs.kept {w w' : World} {base : Nat} {s : Sl} {row : Option Nat} (h : SlIs w base s) (hg : w.grownBy w' row) (hne : s.1.ownBlock = none ∨ s.1.ownBlock ≠ row) (hc : ∀ k, row = some k → ∃ cs t f, w.heap[k]? = some (.cells cs t f)) : SlIs w' base s := by
  refine ⟨fun hq => (h.sl hq).kept hg hne, fun hq => ?_⟩
  obtain ⟨h1, h2, h3⟩ := h.mp hq
  refine ⟨h1, h2.block (hg.block _ h2.lt ?_), h3⟩
  intro e
  obtain ⟨cs, t, f, e2⟩ := hc _ e.symm
  obtain ⟨es, c, e3, _⟩ := h2
  rw [e2] at e3
  cases e3
structure Own (w0 w : World) (rs : List (Nat × Array Value)) (ss : List Sl) : Prop where
  mem : Mem w0 w rs
  sl : ∀ s ∈ ss, SlIs w w0.heap.size s
  apart : (ss.filterMap (·.1.ownBlock) ++ rs.map (·.1)).Nodup
theorem Own.below {w0 w : World} {rs : List (Nat × Array Value)} {ss : List Sl} (h : Own w0 w rs ss) : Below w0.heap.size w0 w := h.mem.below
theorem Own.nil (w : World) : Own w w [] [] := ⟨Mem.nil w, by simp, by simp⟩
theorem Own.row {w0 w : World} {rs : List (Nat × Array Value)} {ss : List Sl} (h : Own w0 w rs ss) (i : Nat) {g : Nat} {cs : Array Value} (hi : rs[i]? = some (g, cs)) : RowIs w g cs := h.mem.get i hi
theorem Own.get {w0 w : World} {rs : List (Nat × Array Value)} {ss : List Sl} (h : Own w0 w rs ss) (j : Nat) {s : Sl} (hj : ss[j]? = some s) (hq : s.2.1 < mapT := by first | assumption | (simp [mapT]; done)) : w.ownsRow w0.heap.size s.2.1 1 s.1 s.2.2.length s.2.2 :=
  (h.sl s (List.mem_of_getElem? hj)).sl hq
theorem Own.slLt {w0 w : World} {rs : List (Nat × Array Value)} {ss : List Sl} (h : Own w0 w rs ss) : ∀ k ∈ ss.filterMap (·.1.ownBlock), w0.heap.size ≤ k ∧ k < w.heap.size := by
  intro k hk
  obtain ⟨s, hs, e⟩ := List.mem_filterMap.1 hk
  exact (h.sl s hs).lt k e
theorem Own.alloc {w0 w : World} {rs : List (Nat × Array Value)} {ss : List Sl} (h : Own w0 w rs ss) (cs : Array Value) (t : TypeId) : Own w0 (w.alloc (.cells cs t)) ((w.heap.size, cs) :: rs) ss := by
  refine ⟨h.mem.alloc cs t, fun s hs => (h.sl s hs).alloc _, ?_⟩
  rw [List.map_cons, List.nodup_append]
  obtain ⟨h1, h2, h3⟩ := List.nodup_append.1 h.apart
  have hm := (h.mem.alloc cs t).apart
  refine ⟨h1, by simpa using hm, ?_⟩
  intro a ha b hb
  rcases List.mem_cons.1 hb with rfl | hb
  · have := (h.slLt a ha).2; omega
  · exact h3 a ha b hb
theorem Own.alloc_obj {w0 w : World} {rs : List (Nat × Array Value)} {ss : List Sl} (h : Own w0 w rs ss) (o : Obj) : Own w0 (w.alloc o) rs ss :=
  ⟨h.mem.alloc_obj o, fun s hs => (h.sl s hs).alloc o, h.apart⟩
theorem Own.drawn {w0 w : World} {rs : List (Nat × Array Value)} {ss : List Sl} (h : Own w0 w rs ss) (n : Nat) : Own w0 { w with drawn := n } rs ss :=
  ⟨h.mem.drawn n, fun s hs => (h.sl s hs).blocks (fun _ _ => rfl), h.apart⟩
theorem Own.call {w0 w w' : World} {rs : List (Nat × Array Value)} {ss : List Sl} (h : Own w0 w rs ss) (hb : Below w.heap.size w w') : Own w0 w' rs ss :=
  ⟨h.mem.call hb, fun s hs => (h.sl s hs).blocks (fun k hk => hb.block k hk), h.apart⟩
theorem Own.dropRow {w0 w : World} {r : Nat × Array Value} {rs : List (Nat × Array Value)} {ss : List Sl} (h : Own w0 w (r :: rs) ss) : Own w0 w rs ss := by
  refine ⟨⟨h.mem.below, fun p hp => h.mem.own p (by simp [hp]), fun p hp => h.mem.rows p (by simp [hp]), ?_⟩, h.sl, ?_⟩
  · have := h.mem.apart
    rw [List.map_cons, List.nodup_cons] at this
    exact this.2
  · obtain ⟨h1, h2, h3⟩ := List.nodup_append.1 h.apart
    rw [List.map_cons, List.nodup_cons] at h2
    exact List.nodup_append.2 ⟨h1, h2.2, fun a ha b hb => h3 a ha b (by simp [hb])⟩
theorem Own.dropSl {w0 w : World} {rs : List (Nat × Array Value)} {s : Sl} {ss : List Sl} (h : Own w0 w rs (s :: ss)) : Own w0 w rs ss := by
  refine ⟨h.mem, fun x hx => h.sl x (by simp [hx]), ?_⟩
  have := h.apart
  rw [List.filterMap_cons] at this
  split at this
  · exact this
  · rw [List.cons_append, List.nodup_cons] at this
    exact this.2
theorem Own.putRow {w0 w w' : World} {rs : List (Nat × Array Value)} {ss : List Sl} (h : Own w0 w rs ss) (i : Nat) {g : Nat} {cs vs : Array Value} (hi : rs[i]? = some (g, cs)) (hr : RowIs w' g vs) (hg : w.grownBy w' (some g)) : Own w0 w' (rs.set i (g, vs)) ss := by
  refine ⟨h.mem.put i hi hr hg, fun s hs => (h.sl s hs).kept hg ?_ (fun k hk => by cases hk; obtain ⟨t, ht⟩ := h.row i hi; exact ⟨_, _, _, ht⟩), ?_⟩
  · cases hv : s.1.ownBlock with
    | none => exact .inl rfl
    | some k =>
      refine .inr fun e => ?_
      cases e
      obtain ⟨_, _, h3⟩ := List.nodup_append.1 h.apart
      exact h3 g (List.mem_filterMap.2 ⟨s, hs, hv⟩) g (List.mem_map.2 ⟨(g, cs), List.mem_of_getElem? hi, rfl⟩) rfl
  · rw [map_fst_set rs i g cs vs hi]; exact h.apart
theorem Own.setRow {w0 w : World} {rs : List (Nat × Array Value)} {ss : List Sl} (h : Own w0 w rs ss) (i : Nat) {g : Nat} {cs : Array Value} (vs : Array Value) (hi : rs[i]? = some (g, cs)) : Own w0 (w.setRow g vs) (rs.set i (g, vs)) ss :=
  h.putRow i hi ((h.row i hi).setRow vs) (grownBy_setRow w g vs)
theorem Own.setCell {w0 w : World} {rs : List (Nat × Array Value)} {ss : List Sl} (h : Own w0 w rs ss) (i : Nat) {g : Nat} {cs : Array Value} (k : Nat) (v : Value) (hi : rs[i]? = some (g, cs)) : Own w0 (w.setCell ⟨g, k, none⟩ v) (rs.set i (g, cs.setIfInBounds k v)) ss :=
  h.putRow i hi ((h.row i hi).setCell k v) (grownBy_setCell w g k v)
section
variable {P : Program} {w : World}
def Src (w : World) (v : Value) (news : List Value) : Prop := (v = .slice none 0 0 ∧ news = []) ∨ ∃ ad c, v = .slice (some ad) news.length c ∧ (∀ j u, news[j]? = some u → w.cell? (ad.add j) = some u)
theorem Src.of_row {g : Nat} {cs : Array Value} (h : RowIs w g cs) (off n c : Nat) (news : List Value) (hn : news.length = n) (hc : ∀ j u, news[j]? = some u → cs[off + j]? = some u) : Src w (.slice (some ⟨g, off, none⟩) n c) news := by
  subst hn
  exact .inr ⟨_, _, rfl, fun j u hj => by rw [Addr.add_lit, h.cell]; exact hc j u hj⟩
variable {ops : Array Oper} {rest : List Oper} {o : Oper} {a : Act} {w0 : World} {Q : Exit → Act → World → Prop} {rs : List (Nat × Array Value)} {ss : List Sl}
theorem exec_build1 {t e : TypeId} {i : TypeInfo} {z : Value} {bytes : Nat} {x : Operand} (ho : o.op = .buildSlice t 1 #[(0, x)]) (he : ElTy P t e i z bytes) {v : Value} (hx : a.eval x = v) (hv : v.cells = #[v]) :
    (execOp a.eval o).run P w = .ok (.value (.slice (some ⟨w.heap.size, 0, none⟩) 1 1)) (w.alloc (.cells #[v] e)) := by
  have hz : (zeroValue e).run P w = .ok z w := by simp [zeroValue, typeInfo, he.info, he.zero]
  unfold execOp
  simp only [ho, Instr.buildSlice, Sem.run_bind, run_underlying he.under, Result.andThen_ok, sizeOf, typeInfo, run_program, he.info, List.map_toArray, List.map_cons, List.map_nil, hx]
  have hr : Array.range 1 = #[0] := by decide
  simp [Instr.fill, hv, he.size, newRow, hz, Result.andThen, hr]
theorem Src.one {g : Nat} {v : Value} (h : RowIs w g #[v]) : Src w (.slice (some ⟨g, 0, none⟩) 1 1) [v] :=
  Src.of_row h 0 1 1 [v] rfl (fun j u hj => by
    cases j with
    | zero => simpa using hj
    | succ j => simp at hj)
theorem wpList_box_o (hm : Own w0 w rs ss) (hgd : Region.wanted o (yielded ops a.tmps) = true) {ty : TypeId} {x : Operand} (ho : o.op = .box ty x) {cs : Array Value} (hx : a.eval x = .agg cs)
    (h : ∀ w' g, Own w0 w' ((g, cs) :: rs) ss → wpList P ops Q rest (a.put o.dst (.pointer (some ⟨g, 0, none⟩))) w') : wpList P ops Q (o :: rest) a w := by
  have hrun : (execOp a.eval o).run P w = .ok (.value (.pointer (some ⟨w.heap.size, 0, none⟩))) (w.alloc (.cells cs ty)) := by
    unfold execOp
    simp only [ho, hx, Instr.box, newVar, newRow, Value.cells, Sem.run_bind, Sem.run_pure]
    rfl
  exact wpList_run hgd hrun (h _ _ (hm.alloc cs ty))
theorem wpList_alloc_o (hm : Own w0 w rs ss) (hgd : Region.wanted o (yielded ops a.tmps) = true) {ty : TypeId} (ho : o.op = .alloc ty) {cs : Array Value} (hz : ∀ w, (zeroValue ty).run P w = .ok (.agg cs) w)
    (h : ∀ w' g, Own w0 w' ((g, cs) :: rs) ss → wpList P ops Q rest (a.put o.dst (.pointer (some ⟨g, 0, none⟩))) w') : wpList P ops Q (o :: rest) a w := by
  have hrun : (execOp a.eval o).run P w = .ok (.value (.pointer (some ⟨w.heap.size, 0, none⟩))) (w.alloc (.cells cs ty)) := by
    unfold execOp
    simp only [ho, Instr.alloc, newVar, newRow, Value.cells, Sem.run_bind, Sem.run_pure, hz, Result.andThen_ok]
    rfl
  exact wpList_run hgd hrun (h _ _ (hm.alloc cs ty))
theorem wpList_store_o (i : Nat) (hm : Own w0 w rs ss) (hgd : Region.wanted o (yielded ops a.tmps) = true) {ty : TypeId} {x y : Operand} (ho : o.op = .store ty x y) {g : Nat} (hx : a.eval x = .pointer (some ⟨g, 0, none⟩)) {vs cs : Array Value} (hy : a.eval y = .agg vs)
    (hi : rs[i]? = some (g, cs)) (ht : AggTy P ty vs.size) (hs : vs.size = cs.size) (h1 : ∀ v ∈ vs, v.oneCell' = true)
    (h : ∀ w', Own w0 w' (rs.set i (g, vs)) ss → wpList P ops Q rest (a.put o.dst undef) w') : wpList P ops Q (o :: rest) a w := by
  have hrun := exec_store (P := P) (off := 0) ho hx hy (hm.row i hi) ht rfl (by omega) h1
  rw [splice_full cs vs hs] at hrun
  exact wpList_skips hgd hrun (h _ (hm.setRow i vs hi))
theorem wpList_storecell_o (i : Nat) (hm : Own w0 w rs ss) (hgd : Region.wanted o (yielded ops a.tmps) = true) {ty : TypeId} {x y : Operand} (ho : o.op = .store ty x y) {g off : Nat} (hx : a.eval x = .pointer (some ⟨g, off, none⟩)) {v : Value} (hy : a.eval y = v) {cs ns : Array Value}
    (hi : rs[i]? = some (g, cs)) (ht : OneTy P ty) (hf : off < cs.size) (hc : v.cells = #[v]) (h1 : v.oneCell' = true) (hn : cs.setIfInBounds off v = ns)
    (h : ∀ w', Own w0 w' (rs.set i (g, ns)) ss → wpList P ops Q rest (a.put o.dst undef) w') : wpList P ops Q (o :: rest) a w := by
  have hr := hm.row i hi
  have hcell : w.cell? ⟨g, off, none⟩ = some cs[off] := by rw [hr.cell]; simp [hf]
  have hst : (store ⟨g, off, none⟩ v).run P w = .ok () (w.setCell ⟨g, off, none⟩ v) := by
    rw [run_store P w _ v _ h1, hcell]
    simp [hr.free off]
  have hrun : (execOp a.eval o).run P w = .ok .skip (w.setCell ⟨g, off, none⟩ v) := by
    cases hq : P.info? ty with
    | none => have := ht.2; simp [hq] at this
    | some i =>
      have hs : i.size = 1 := by have := ht.2; simpa [hq] using this
      unfold execOp
      simp only [ho, hx, hy, Instr.storeAt, Instr.sureAddr, Sem.run_bind, Sem.run_pure, Result.andThen_ok, storeVar, hc, sizeOf, typeInfo, run_program, hq, hs]
      simp [storeCells, Addr.add_zero', hst, Result.andThen]
  refine wpList_skips hgd hrun (h _ ?_)
  rw [← hn]
  exact hm.setCell i off v hi
end
theorem Src.below {w w' : World} {v : Value} {xs : List Value} (h : Src w v xs) (hb : Below w.heap.size w w') : Src w' v xs := by
  rcases h with h | ⟨ad, c, rfl, hc⟩
  · exact .inl h
  · exact .inr ⟨ad, c, rfl, fun j u hj => by
      have hj' := hc j u hj
      have hlt := block_lt_of_cell hj'
      exact (hb.cell hlt).trans hj'⟩
section
variable {P : Program} {w : World} {o : Oper} {a : Act}
theorem exec_indexAddr_sl {t e : TypeId} {i : TypeInfo} {z : Value} {bytes : Nat} {x y : Operand} (ho : o.op = .indexAddr t x y) (he : ElTy P t e i z bytes) {ad : Addr} {n c : Nat} (hx : a.eval x = .slice (some ad) n c) {k : Nat} {q : IntKind} {zz : Int} (hy : a.eval y = .int q zz) (hz : zz = k) (hk : k < n) :
    (execOp a.eval o).run P w = .ok (.value (.pointer (some (ad.add k)))) w := by
  subst hz
  unfold execOp
  simp only [ho, hx, hy, Instr.indexAt, asIntOf, Sem.run_bind, Sem.run_pure, Result.andThen_ok, run_underlying he.under]
  simp [show (k : Int) < (n : Int) by omega, sizeOf, typeInfo, he.info, he.size]
theorem exec_loadaddr {ty : TypeId} {x : Operand} (ho : o.op = .load ty x) {ad : Addr} (hx : a.eval x = .pointer (some ad)) {v : Value}
    (ht : OneTy P ty) (hc : w.cell? ad = some v) : (execOp a.eval o).run P w = .ok (.value v) w := by
  unfold execOp
  simp only [ho, hx, Instr.loadAt, Instr.sureAddr, Sem.run_bind, Sem.run_pure, Result.andThen_ok, loadVar, ht.1, Bool.false_eq_true, if_false, run_load, hc]
end
theorem wpList_do {P : Program} {ops : Array Oper} {rest : List Oper} {o : Oper} {a : Act} {w : World} {Q : Exit → Act → World → Prop} (hg : Region.wanted o (yielded ops a.tmps) = true)
    (h : ∀ K : Act → World → Prop, (∀ a w, wpList P ops Q rest a w → K a w) → o.wp P a w K Q) : wpList P ops Q (o :: rest) a w :=
  wpList_step fun K hK => by rw [if_pos hg]; exact h K hK
end Go.Proofs.YtkpbhdhkdonghaaGreat
