/-
  A region that draws its order, walked along a tree of orders: reads are taken as soon as they may come up; where two operations may come up, both are walked; the ways meet again behind the region. No program in sight.
-/
import Derived.Test.YtaccjnekonmkoaaOrdOwn
namespace Go.Proofs.Ytaccjnekonmkoaa
open Go Go.RowKit

/-- A tree of orders. -/
inductive OT where
  | done : OT
  | rd : Nat → OT → OT
  | one : Nat → OT → OT
  | two : Nat → OT → Nat → OT → OT
def OT.depth : OT → Nat
  | .done => 0
  | .rd _ t => t.depth + 1
  | .one _ t => t.depth + 1
  | .two _ t _ _ => t.depth + 1
section
variable {P : Program} {ops : Array Oper} {Q : Exit → Act → World → Prop}
def okT (ops : Array Oper) : Array Bool → OT → Bool
  | l, .done => (Region.ready .any ops l).isEmpty
  | l, .rd i t => Region.free .any ops l i && (Region.ready .any ops l).contains i && okT ops (l.setIfInBounds i true) t
  | l, .one i t => (Region.ready .any ops l == [i]) && okT ops (l.setIfInBounds i true) t
  | l, .two i t j u => (Region.ready .any ops l == [i, j]) && (u.depth == t.depth) && okT ops (l.setIfInBounds i true) t && okT ops (l.setIfInBounds j true) u
/-- What is owed along a tree of orders. -/
def wpT (P : Program) (ops : Array Oper) (Q : Exit → Act → World → Prop) : OT → (World → Prop) → Act → World → Prop
  | .done, _, a, w => Q .normal a w
  | .rd i t, S, a, w => ∃ o v, ops[i]? = some o ∧ YieldsIf P ops S o v a ∧ wpT P ops Q t S (a.put o.dst v) w
  | .one i t, S, a, w => wpOp P ops Q i (fun a' w' => ∃ S' : World → Prop, (∀ W, S' W → S W) ∧ S' w' ∧ wpT P ops Q t S' a' w') a w
  | .two i t j u, S, a, w => wpOp P ops Q i (fun a' w' => ∃ S' : World → Prop, (∀ W, S' W → S W) ∧ S' w' ∧ wpT P ops Q t S' a' w') a w ∧ wpOp P ops Q j (fun a' w' => ∃ S' : World → Prop, (∀ W, S' W → S W) ∧ S' w' ∧ wpT P ops Q u S' a' w') a w
theorem wpT_sound (hs : Region.noSelect ops = true) (hQ : ∀ c a d v w, Q (.panic c) (a.put d v) w → Q (.panic c) a w) : ∀ (t : OT) (S : World → Prop) (listed : Array Bool) (a : Act) (w : World),
    okT ops listed t = true → S w → wpT P ops Q t S a w → wpAnyH P .any ops Q S t.depth listed a w
  | .done, S, listed, a, w, hB, _, h => wpAnyH_done (by simpa [okT] using hB) h 0
  | .rd i t, S, listed, a, w, hB, hS, h => by
    simp only [okT, Bool.and_eq_true] at hB
    obtain ⟨o, v, ho, hy, h⟩ := h
    exact wpAnyH_take ho hs hB.1.1 hB.1.2 (fun c a w => hQ c a o.dst v w) hy hS (wpT_sound hs hQ t S _ _ _ hB.2 hS h)
  | .one i t, S, listed, a, w, hB, hS, h => by
    simp only [okT, Bool.and_eq_true, beq_iff_eq] at hB
    refine wpAnyH_all hB.1 (by simp) fun j hj => ?_
    obtain rfl := List.mem_singleton.1 hj
    refine wpOp_mono ?_ h
    rintro a' w' ⟨S', h1, h2, h3⟩
    exact ⟨h1 _ h2, wpAnyH_mono h1 _ _ _ _ (wpT_sound hs hQ t S' _ _ _ hB.2 h2 h3)⟩
  | .two i t j u, S, listed, a, w, hB, hS, h => by
    simp only [okT, Bool.and_eq_true, beq_iff_eq] at hB
    refine wpAnyH_all hB.1.1.1 (by simp) fun k hk => ?_
    rcases List.mem_cons.1 hk with rfl | hk
    · refine wpOp_mono ?_ h.1
      rintro a' w' ⟨S', h1, h2, h3⟩
      exact ⟨h1 _ h2, wpAnyH_mono h1 _ _ _ _ (wpT_sound hs hQ t S' _ _ _ hB.1.2 h2 h3)⟩
    · obtain rfl := List.mem_singleton.1 hk
      refine wpOp_mono ?_ h.2
      rintro a' w' ⟨S', h1, h2, h3⟩
      rw [← hB.1.1.2]
      exact ⟨h1 _ h2, wpAnyH_mono h1 _ _ _ _ (wpT_sound hs hQ u S' _ _ _ hB.2 h2 h3)⟩
theorem wp_region_T {id : Nat} {l : List Oper} {a : Act} {w : World} (t : OT) (S : World → Prop) (hm : P.follows .mixedOrders = true) (hs : Region.noSelect l.toArray = true) (hlen : t.depth = l.toArray.size)
    (hB : okT l.toArray (Array.replicate l.toArray.size false) t = true) (hQ : ∀ c a d v w, Q (.panic c) (a.put d v) w → Q (.panic c) a w) (hS : S { w with drawn := w.drawn + 1 })
    (h : wpT P l.toArray Q t S a { w with drawn := w.drawn + 1 }) : (Code.region id l.toArray true).wp P Q a w :=
  wp_region_held hm (by have H := wpT_sound hs hQ t S _ a _ hB hS h; rw [hlen] at H; exact H)
/-- The same; the ways meet behind the region: I says what holds there of three values that the frame may bear. -/
theorem wp_region_TJ {id : Nat} {l : List Oper} {a : Act} {w : World} {α β γ : Type} {A : α → β → γ → Act} (t : OT) (S : World → Prop) (I : α → β → γ → World → Prop) (hm : P.follows .mixedOrders = true) (hs : Region.noSelect l.toArray = true) (hlen : t.depth = l.toArray.size)
    (hB : okT l.toArray (Array.replicate l.toArray.size false) t = true) (hS : S { w with drawn := w.drawn + 1 })
    (h : wpT P l.toArray (fun e a' w' => e = .normal ∧ ∃ x y z, a' = A x y z ∧ I x y z w') t S a { w with drawn := w.drawn + 1 })
    (hrest : ∀ x y z w', I x y z w' → Q .normal (A x y z) w') : (Code.region id l.toArray true).wp P Q a w := by
  refine wp_mono (wp_region_T t S hm hs hlen hB (fun c a d v w h => by cases h.1) hS h) ?_
  rintro e a' w' ⟨rfl, x, y, z, rfl, hI⟩
  exact hrest x y z w' hI
/-- The same with four values. -/
theorem wp_region_TJ4 {id : Nat} {l : List Oper} {a : Act} {w : World} {α β γ δ : Type} {A : α → β → γ → δ → Act} (t : OT) (S : World → Prop) (I : α → β → γ → δ → World → Prop) (hm : P.follows .mixedOrders = true) (hs : Region.noSelect l.toArray = true) (hlen : t.depth = l.toArray.size)
    (hB : okT l.toArray (Array.replicate l.toArray.size false) t = true) (hS : S { w with drawn := w.drawn + 1 })
    (h : wpT P l.toArray (fun e a' w' => e = .normal ∧ ∃ x y z u, a' = A x y z u ∧ I x y z u w') t S a { w with drawn := w.drawn + 1 })
    (hrest : ∀ x y z u w', I x y z u w' → Q .normal (A x y z u) w') : (Code.region id l.toArray true).wp P Q a w := by
  refine wp_mono (wp_region_T t S hm hs hlen hB (fun c a d v w h => by cases h.1) hS h) ?_
  rintro e a' w' ⟨rfl, x, y, z, u, rfl, hI⟩
  exact hrest x y z u w' hI
variable {i : Nat} {t : OT} {S : World → Prop} {a : Act} {w w' w0 : World} {o : Oper} {rs : List (Nat × Array Value)} {ss : List Sl}
theorem T_done (h : Q .normal a w) : wpT P ops Q .done S a w := h
theorem T_read {v : Value} (ho : ops.toList[i]? = some o) (hw : Region.wanted o (yielded ops a.tmps) = true)
    (hrun : ∀ W, S W → (execOp a.eval o).run P W = .ok (.value v) W) (h : wpT P ops Q t S (a.put o.dst v) w) : wpT P ops Q (.rd i t) S a w :=
  ⟨o, v, by rw [← Array.getElem?_toList]; exact ho, .inl ⟨hw, hrun⟩, h⟩
theorem T_pass (ho : ops.toList[i]? = some o) (hw : Region.wanted o (yielded ops a.tmps) = false)
    (h : wpT P ops Q t S (a.put o.dst undef) w) : wpT P ops Q (.rd i t) S a w :=
  ⟨o, undef, by rw [← Array.getElem?_toList]; exact ho, .inr ⟨hw, rfl⟩, h⟩
/-- One operation, by hand. -/
def oneT (P : Program) (ops : Array Oper) (Q : Exit → Act → World → Prop) (i : Nat) (t : OT) (S : World → Prop) (a : Act) (w : World) : Prop := wpOp P ops Q i (fun a' w' => ∃ S' : World → Prop, (∀ W, S' W → S W) ∧ S' w' ∧ wpT P ops Q t S' a' w') a w
theorem T_one (h : oneT P ops Q i t S a w) : wpT P ops Q (.one i t) S a w := h
theorem T_two {j : Nat} {u : OT} (h1 : oneT P ops Q i t S a w) (h2 : oneT P ops Q j u S a w) : wpT P ops Q (.two i t j u) S a w := ⟨h1, h2⟩
theorem oneT_do (ho : ops.toList[i]? = some o) (hw : Region.wanted o (yielded ops a.tmps) = true)
    (h : ∀ K : Act → World → Prop, (∀ a' w', (∃ S' : World → Prop, (∀ W, S' W → S W) ∧ S' w' ∧ wpT P ops Q t S' a' w') → K a' w') → o.wp P a w K Q) : oneT P ops Q i t S a w := by
  have ho' : ops[i]? = some o := by rw [← Array.getElem?_toList]; exact ho
  unfold oneT wpOp
  simp only [ho', hw, if_true]
  exact .inl (h _ fun _ _ h => h)
theorem oneT_pass (ho : ops.toList[i]? = some o) (hw : Region.wanted o (yielded ops a.tmps) = false) (hS : S w)
    (h : wpT P ops Q t S (a.put o.dst undef) w) : oneT P ops Q i t S a w := by
  have ho' : ops[i]? = some o := by rw [← Array.getElem?_toList]; exact ho
  unfold oneT wpOp
  simp only [ho', hw, Bool.false_eq_true, if_false]
  exact ⟨S, fun _ h => h, hS, h⟩
theorem oneT_run {v : Value} (ho : ops.toList[i]? = some o) (hw : Region.wanted o (yielded ops a.tmps) = true)
    (hrun : (execOp a.eval o).run P w = .ok (.value v) w') (hS : S w') (h : wpT P ops Q t S (a.put o.dst v) w') : oneT P ops Q i t S a w :=
  oneT_do ho hw fun K hK => by unfold Oper.wp; rw [hrun]; exact hK _ _ ⟨S, fun _ h => h, hS, h⟩
theorem oneT_skips (ho : ops.toList[i]? = some o) (hw : Region.wanted o (yielded ops a.tmps) = true)
    (hrun : (execOp a.eval o).run P w = .ok .skip w') (hS : S w') (h : wpT P ops Q t S (a.put o.dst undef) w') : oneT P ops Q i t S a w :=
  oneT_do ho hw fun K hK => by unfold Oper.wp; rw [hrun]; exact hK _ _ ⟨S, fun _ h => h, hS, h⟩
theorem oneT_alloc_o (hm : Own w0 w rs ss) (ho : ops.toList[i]? = some o) (hw : Region.wanted o (yielded ops a.tmps) = true) {ty : TypeId} (hop : o.op = .alloc ty) {cs : Array Value} (hz : ∀ w, (zeroValue ty).run P w = .ok (.agg cs) w)
    (hS : ∀ w' g, Own w0 w' ((g, cs) :: rs) ss → S w') (h : ∀ w' g, Own w0 w' ((g, cs) :: rs) ss → wpT P ops Q t S (a.put o.dst (.pointer (some ⟨g, 0, none⟩))) w') : oneT P ops Q i t S a w :=
  oneT_run ho hw (exec_alloc hop hz) (hS _ _ (hm.alloc cs ty)) (h _ _ (hm.alloc cs ty))
theorem oneT_store_o (j : Nat) (hm : Own w0 w rs ss) (ho : ops.toList[i]? = some o) (hw : Region.wanted o (yielded ops a.tmps) = true) {ty : TypeId} {x y : Operand} (hop : o.op = .store ty x y) {g : Nat} (hx : a.eval x = .pointer (some ⟨g, 0, none⟩)) {vs cs : Array Value} (hy : a.eval y = .agg vs)
    (hi : rs[j]? = some (g, cs)) (ht : AggTy P ty vs.size) (hs : vs.size = cs.size) (h1 : ∀ v ∈ vs, v.oneCell' = true)
    (hS : ∀ w', Own w0 w' (rs.set j (g, vs)) ss → S w') (h : ∀ w', Own w0 w' (rs.set j (g, vs)) ss → wpT P ops Q t S (a.put o.dst undef) w') : oneT P ops Q i t S a w := by
  have hrun := exec_store (P := P) (off := 0) hop hx hy (hm.row j hi) ht rfl (by omega) h1
  rw [splice_full cs vs hs] at hrun
  exact oneT_skips ho hw hrun (hS _ (hm.setRow j vs hi)) (h _ (hm.setRow j vs hi))
theorem oneT_build1_o (hm : Own w0 w rs ss) (ho : ops.toList[i]? = some o) (hw : Region.wanted o (yielded ops a.tmps) = true) {ty e : TypeId} {q : TypeInfo} {z : Value} {bytes : Nat} {x : Operand} (hop : o.op = .buildSlice ty 1 #[(0, x)]) (he : ElTy P ty e q z bytes) {v : Value} (hx : a.eval x = v) (hv : v.cells = #[v])
    (hS : ∀ w' g, Own w0 w' ((g, #[v]) :: rs) ss → S w') (h : ∀ w' g, Own w0 w' ((g, #[v]) :: rs) ss → wpT P ops Q t S (a.put o.dst (.slice (some ⟨g, 0, none⟩) 1 1)) w') : oneT P ops Q i t S a w :=
  oneT_run ho hw (exec_build1 hop he hx hv) (hS _ _ (hm.alloc #[v] e)) (h _ _ (hm.alloc #[v] e))
end
/-- Fewer blocks and slices. -/
theorem Own.sub {w0 w : World} {rs rs' : List (Nat × Array Value)} {ss ss' : List Sl} (h : Own w0 w rs ss) (hr : rs'.Sublist rs) (hs : ss'.Sublist ss) : Own w0 w rs' ss' := by
  refine ⟨⟨h.mem.below, fun p hp => h.mem.own p (hr.subset hp), fun p hp => h.mem.rows p (hr.subset hp), h.mem.apart.sublist (hr.map _)⟩, fun s hq => h.sl s (hs.subset hq), ?_⟩
  exact List.Nodup.sublist ((hs.filterMap _).append (hr.map _)) h.apart
end Go.Proofs.Ytaccjnekonmkoaa
