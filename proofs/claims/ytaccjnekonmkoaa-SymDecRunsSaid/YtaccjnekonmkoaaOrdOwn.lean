/-
  The steps of a typed order over 'Own'. No program in sight.
-/
import Derived.Test.YtaccjnekonmkoaaOrd
import Derived.Test.YtaccjnekonmkoaaOwn
namespace Go.Proofs.Ytaccjnekonmkoaa
open Go Go.RowKit
section
variable {P : Program} {ops : Array Oper} {Q : Exit → Act → World → Prop} {i : Nat} {r : List (Nat × Bool)} {S : World → Prop} {a : Act} {w w0 : World} {o : Oper} {rs : List (Nat × Array Value)} {ss : List Sl}

theorem RowIs.below {w w' : World} {g : Nat} {cs : Array Value} (h : RowIs w g cs) (hb : Below w.heap.size w w') : RowIs w' g cs := h.of_block (hb.block g h.lt)

theorem exec_alloc {ty : TypeId} (ho : o.op = .alloc ty) {cs : Array Value} (hz : ∀ w, (zeroValue ty).run P w = .ok (.agg cs) w) :
    (execOp a.eval o).run P w = .ok (.value (.pointer (some ⟨w.heap.size, 0, none⟩))) (w.alloc (.cells cs ty)) := by
  unfold execOp
  simp only [ho, Instr.alloc, newVar, newRow, Value.cells, Sem.run_bind, Sem.run_pure, hz, Result.andThen_ok]
  rfl
theorem ord_alloc_o (hm : Own w0 w rs ss) (ho : ops[i]? = some o) (hw : Region.wanted o (yielded ops a.tmps) = true) {ty : TypeId} (hop : o.op = .alloc ty) {cs : Array Value} (hz : ∀ w, (zeroValue ty).run P w = .ok (.agg cs) w)
    (hS : ∀ w' g, Own w0 w' ((g, cs) :: rs) ss → S w') (h : ∀ w' g, Own w0 w' ((g, cs) :: rs) ss → wpOrd P ops Q r S (a.put o.dst (.pointer (some ⟨g, 0, none⟩))) w') : wpOrd P ops Q ((i, false) :: r) S a w :=
  ord_run ho hw (exec_alloc hop hz) (hS _ _ (hm.alloc cs ty)) (h _ _ (hm.alloc cs ty))
theorem ord_store_o (j : Nat) (hm : Own w0 w rs ss) (ho : ops[i]? = some o) (hw : Region.wanted o (yielded ops a.tmps) = true) {ty : TypeId} {x y : Operand} (hop : o.op = .store ty x y) {g : Nat} (hx : a.eval x = .pointer (some ⟨g, 0, none⟩)) {vs cs : Array Value} (hy : a.eval y = .agg vs)
    (hi : rs[j]? = some (g, cs)) (ht : AggTy P ty vs.size) (hs : vs.size = cs.size) (h1 : ∀ v ∈ vs, v.oneCell' = true)
    (hS : ∀ w', Own w0 w' (rs.set j (g, vs)) ss → S w') (h : ∀ w', Own w0 w' (rs.set j (g, vs)) ss → wpOrd P ops Q r S (a.put o.dst undef) w') : wpOrd P ops Q ((i, false) :: r) S a w := by
  have hrun := exec_store (P := P) (off := 0) hop hx hy (hm.row j hi) ht rfl (by omega) h1
  rw [splice_full cs vs hs] at hrun
  exact ord_skips ho hw hrun (hS _ (hm.setRow j vs hi)) (h _ (hm.setRow j vs hi))
end
end Go.Proofs.Ytaccjnekonmkoaa
