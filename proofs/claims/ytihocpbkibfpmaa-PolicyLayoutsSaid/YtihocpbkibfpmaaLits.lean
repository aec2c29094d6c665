/-
  Slice literals of integers (type 22), as slices of the call's own; strings of small helpers for the walks of layer 23.
-/
import Derived.Test.YtihocpbkibfpmaaPolA
import Derived.Laws.OwnMore
namespace Go.Proofs.Ytihocpbkibfpmaa
open Go Go.RowKit

theorem el22 : ∃ i, ElTy Try.prog 22 3 i (.int .i64 0) 8 := ⟨_, Try.underlying22, rfl, rfl, rfl, rfl, rfl⟩
abbrev J (l : List Int) : Array Value := (vs .i64 l).toArray
theorem Own.lit {w0 w : World} {rs : List (Nat × Array Value)} {ss : List Sl} (h : Own w0 w rs ss) (l : List Int) (hl : l.length ≤ maxLen) :
    Own w0 (w.alloc (.cells (J l) 3)) rs ((.slice (some ⟨w.heap.size, 0, none⟩) l.length l.length, 3, vs .i64 l) :: ss) := by
  refine h.callSl ((Below.refl _ w).alloc (Nat.le_refl _) _) ?_
  rw [length_vs]
  have := World.ownsRow_lit (base := w.heap.size) (size := 1) (e := 3) w (J l) l.length (Nat.le_refl _) hl (by simp [J, length_vs])
  simpa [J] using this
theorem exec_lit1 {o : Oper} {a : Act} {w : World} {x0 : Operand} (ho : o.op = .buildSlice 22 1 #[(0, x0)]) {v0 : Int} (h0 : a.eval x0 = .int .i64 v0) :
    (execOp a.eval o).run Try.prog w = .ok (.value (.slice (some ⟨w.heap.size, 0, none⟩) 1 1)) (w.alloc (.cells (J [v0]) 3)) := by
  unfold execOp
  obtain ⟨i5, he⟩ := el22
  have hz : (zeroValue 3).run Try.prog w = .ok (.int .i64 0) w := by simp [zeroValue, typeInfo, he.info, he.zero]
  have hr : Array.range 1 = #[0] := by decide
  simp only [ho, Instr.buildSlice, Sem.run_bind, run_underlying he.under, Result.andThen_ok, sizeOf, typeInfo, run_program, he.info, List.map_toArray, List.map_cons, List.map_nil, h0]
  simp [Instr.fill, Value.cells, he.size, newRow, hz, Result.andThen, hr, J, vs]
theorem wpList_lit1_o {ops : Array Oper} {rest : List Oper} {o : Oper} {a : Act} {w0 w : World} {Q : Exit → Act → World → Prop} {rs : List (Nat × Array Value)} {ss : List Sl} (hm : Own w0 w rs ss) (hgd : Region.wanted o (yielded ops a.tmps) = true)
    {x0 : Operand} (ho : o.op = .buildSlice 22 1 #[(0, x0)]) {v0 : Int} (h0 : a.eval x0 = .int .i64 v0)
    (h : ∀ w' g, Own w0 w' rs ((.slice (some ⟨g, 0, none⟩) 1 1, 3, vs .i64 [v0]) :: ss) → wpList Try.prog ops Q rest (a.put o.dst (.slice (some ⟨g, 0, none⟩) 1 1)) w') : wpList Try.prog ops Q (o :: rest) a w :=
  wpList_run hgd (exec_lit1 ho h0) (h _ _ (hm.lit [v0] (by simp [maxLen])))
theorem exec_lit2 {o : Oper} {a : Act} {w : World} {x0 x1 : Operand} (ho : o.op = .buildSlice 22 2 #[(0, x0), (1, x1)]) {v0 v1 : Int} (h0 : a.eval x0 = .int .i64 v0) (h1 : a.eval x1 = .int .i64 v1) :
    (execOp a.eval o).run Try.prog w = .ok (.value (.slice (some ⟨w.heap.size, 0, none⟩) 2 2)) (w.alloc (.cells (J [v0, v1]) 3)) := by
  unfold execOp
  obtain ⟨i5, he⟩ := el22
  have hz : (zeroValue 3).run Try.prog w = .ok (.int .i64 0) w := by simp [zeroValue, typeInfo, he.info, he.zero]
  have hr : Array.range 2 = #[0, 1] := by decide
  simp only [ho, Instr.buildSlice, Sem.run_bind, run_underlying he.under, Result.andThen_ok, sizeOf, typeInfo, run_program, he.info, List.map_toArray, List.map_cons, List.map_nil, h0, h1]
  simp [Instr.fill, Value.cells, he.size, newRow, hz, Result.andThen, hr, J, vs]
theorem wpList_lit2_o {ops : Array Oper} {rest : List Oper} {o : Oper} {a : Act} {w0 w : World} {Q : Exit → Act → World → Prop} {rs : List (Nat × Array Value)} {ss : List Sl} (hm : Own w0 w rs ss) (hgd : Region.wanted o (yielded ops a.tmps) = true)
    {x0 x1 : Operand} (ho : o.op = .buildSlice 22 2 #[(0, x0), (1, x1)]) {v0 v1 : Int} (h0 : a.eval x0 = .int .i64 v0) (h1 : a.eval x1 = .int .i64 v1)
    (h : ∀ w' g, Own w0 w' rs ((.slice (some ⟨g, 0, none⟩) 2 2, 3, vs .i64 [v0, v1]) :: ss) → wpList Try.prog ops Q rest (a.put o.dst (.slice (some ⟨g, 0, none⟩) 2 2)) w') : wpList Try.prog ops Q (o :: rest) a w :=
  wpList_run hgd (exec_lit2 ho h0 h1) (h _ _ (hm.lit [v0, v1] (by simp [maxLen])))
theorem exec_lit3 {o : Oper} {a : Act} {w : World} {x0 x1 x2 : Operand} (ho : o.op = .buildSlice 22 3 #[(0, x0), (1, x1), (2, x2)]) {v0 v1 v2 : Int} (h0 : a.eval x0 = .int .i64 v0) (h1 : a.eval x1 = .int .i64 v1) (h2 : a.eval x2 = .int .i64 v2) :
    (execOp a.eval o).run Try.prog w = .ok (.value (.slice (some ⟨w.heap.size, 0, none⟩) 3 3)) (w.alloc (.cells (J [v0, v1, v2]) 3)) := by
  unfold execOp
  obtain ⟨i5, he⟩ := el22
  have hz : (zeroValue 3).run Try.prog w = .ok (.int .i64 0) w := by simp [zeroValue, typeInfo, he.info, he.zero]
  have hr : Array.range 3 = #[0, 1, 2] := by decide
  simp only [ho, Instr.buildSlice, Sem.run_bind, run_underlying he.under, Result.andThen_ok, sizeOf, typeInfo, run_program, he.info, List.map_toArray, List.map_cons, List.map_nil, h0, h1, h2]
  simp [Instr.fill, Value.cells, he.size, newRow, hz, Result.andThen, hr, J, vs]
theorem wpList_lit3_o {ops : Array Oper} {rest : List Oper} {o : Oper} {a : Act} {w0 w : World} {Q : Exit → Act → World → Prop} {rs : List (Nat × Array Value)} {ss : List Sl} (hm : Own w0 w rs ss) (hgd : Region.wanted o (yielded ops a.tmps) = true)
    {x0 x1 x2 : Operand} (ho : o.op = .buildSlice 22 3 #[(0, x0), (1, x1), (2, x2)]) {v0 v1 v2 : Int} (h0 : a.eval x0 = .int .i64 v0) (h1 : a.eval x1 = .int .i64 v1) (h2 : a.eval x2 = .int .i64 v2)
    (h : ∀ w' g, Own w0 w' rs ((.slice (some ⟨g, 0, none⟩) 3 3, 3, vs .i64 [v0, v1, v2]) :: ss) → wpList Try.prog ops Q rest (a.put o.dst (.slice (some ⟨g, 0, none⟩) 3 3)) w') : wpList Try.prog ops Q (o :: rest) a w :=
  wpList_run hgd (exec_lit3 ho h0 h1 h2) (h _ _ (hm.lit [v0, v1, v2] (by simp [maxLen])))
theorem exec_lit6 {o : Oper} {a : Act} {w : World} {x0 x1 x2 x3 x4 x5 : Operand} (ho : o.op = .buildSlice 22 6 #[(0, x0), (1, x1), (2, x2), (3, x3), (4, x4), (5, x5)]) {v0 v1 v2 v3 v4 v5 : Int} (h0 : a.eval x0 = .int .i64 v0) (h1 : a.eval x1 = .int .i64 v1) (h2 : a.eval x2 = .int .i64 v2) (h3 : a.eval x3 = .int .i64 v3) (h4 : a.eval x4 = .int .i64 v4) (h5 : a.eval x5 = .int .i64 v5) :
    (execOp a.eval o).run Try.prog w = .ok (.value (.slice (some ⟨w.heap.size, 0, none⟩) 6 6)) (w.alloc (.cells (J [v0, v1, v2, v3, v4, v5]) 3)) := by
  unfold execOp
  obtain ⟨i5, he⟩ := el22
  have hz : (zeroValue 3).run Try.prog w = .ok (.int .i64 0) w := by simp [zeroValue, typeInfo, he.info, he.zero]
  have hr : Array.range 6 = #[0, 1, 2, 3, 4, 5] := by decide
  simp only [ho, Instr.buildSlice, Sem.run_bind, run_underlying he.under, Result.andThen_ok, sizeOf, typeInfo, run_program, he.info, List.map_toArray, List.map_cons, List.map_nil, h0, h1, h2, h3, h4, h5]
  simp [Instr.fill, Value.cells, he.size, newRow, hz, Result.andThen, hr, J, vs]
theorem wpList_lit6_o {ops : Array Oper} {rest : List Oper} {o : Oper} {a : Act} {w0 w : World} {Q : Exit → Act → World → Prop} {rs : List (Nat × Array Value)} {ss : List Sl} (hm : Own w0 w rs ss) (hgd : Region.wanted o (yielded ops a.tmps) = true)
    {x0 x1 x2 x3 x4 x5 : Operand} (ho : o.op = .buildSlice 22 6 #[(0, x0), (1, x1), (2, x2), (3, x3), (4, x4), (5, x5)]) {v0 v1 v2 v3 v4 v5 : Int} (h0 : a.eval x0 = .int .i64 v0) (h1 : a.eval x1 = .int .i64 v1) (h2 : a.eval x2 = .int .i64 v2) (h3 : a.eval x3 = .int .i64 v3) (h4 : a.eval x4 = .int .i64 v4) (h5 : a.eval x5 = .int .i64 v5)
    (h : ∀ w' g, Own w0 w' rs ((.slice (some ⟨g, 0, none⟩) 6 6, 3, vs .i64 [v0, v1, v2, v3, v4, v5]) :: ss) → wpList Try.prog ops Q rest (a.put o.dst (.slice (some ⟨g, 0, none⟩) 6 6)) w') : wpList Try.prog ops Q (o :: rest) a w :=
  wpList_run hgd (exec_lit6 ho h0 h1 h2 h3 h4 h5) (h _ _ (hm.lit [v0, v1, v2, v3, v4, v5] (by simp [maxLen])))
end Go.Proofs.Ytihocpbkibfpmaa
