/-
  The walks of policy.layouts, policy.Layout and the reference's Layout.
-/
import Derived.Test.YtihocpbkibfpmaaKeys
namespace Go.Proofs.Ytihocpbkibfpmaa
open Go Go.RowKit

section
variable {P : Program} {ops : Array Oper} {Q : Exit → Act → World → Prop}
theorem ordC_read_l {C : (World → Prop) → Act → World → Prop} {i : Nat} {r : List (Nat × Bool)} {S : World → Prop} {a : Act} {w : World} {o : Oper} {v : Value} (ho : ops.toList[i]? = some o) (hw : Region.wanted o (yielded ops a.tmps) = true)
    (hrun : ∀ W, S W → (execOp a.eval o).run P W = .ok (.value v) W) (h : wpOrdC P ops Q C r S (a.put o.dst v) w) : wpOrdC P ops Q C ((i, true) :: r) S a w :=
  ⟨o, v, by rw [← Array.getElem?_toList]; exact ho, .inl ⟨hw, hrun⟩, h⟩
theorem ordC_run_l {C : (World → Prop) → Act → World → Prop} {i : Nat} {r : List (Nat × Bool)} {S : World → Prop} {a : Act} {w w' : World} {o : Oper} {v : Value} (ho : ops.toList[i]? = some o) (hw : Region.wanted o (yielded ops a.tmps) = true)
    (hrun : (execOp a.eval o).run P w = .ok (.value v) w') (hS : S w') (h : wpOrdC P ops Q C r S (a.put o.dst v) w') : wpOrdC P ops Q C ((i, false) :: r) S a w := by
  have ho' : ops[i]? = some o := by rw [← Array.getElem?_toList]; exact ho
  unfold wpOrdC wpOp
  simp only [ho', hw, if_true]
  refine .inl ?_
  unfold Oper.wp
  rw [hrun]
  exact ⟨S, fun _ h => h, hS, h⟩
theorem wpOp_skip {K : Act → World → Prop} {i : Nat} {a : Act} {w w' : World} {o : Oper} (ho : ops.toList[i]? = some o) (hw : Region.wanted o (yielded ops a.tmps) = true) (hd : o.dst = none)
    (hrun : (execOp a.eval o).run P w = .ok .skip w') (h : K a w') : wpOp P ops Q i K a w := by
  have ho' : ops[i]? = some o := by rw [← Array.getElem?_toList]; exact ho
  unfold wpOp
  simp only [ho', hw, if_true]
  refine .inl ?_
  unfold Oper.wp
  rw [hrun]
  show K (a.put o.dst undef) w'
  rw [hd]
  exact h
theorem exec_insert {o : Oper} {a : Act} {w w' : World} {t : TypeId} {x y z : Operand} (ho : o.op = .insert t x y z) {vx vy vz : Value} (hx : a.eval x = vx) (hy : a.eval y = vy) (hz : a.eval z = vz) (hr : (Instr.mapUpdate t vx vy vz).run P w = .ok () w') :
    (execOp a.eval o).run P w = .ok .skip w' := by
  subst hx hy hz
  unfold execOp
  simp only [ho, Sem.run_bind, hr, Result.andThen_ok, Sem.run_pure]
theorem exec_makeMap {o : Oper} {a : Act} {w : World} {t : TypeId} (ho : o.op = .makeMap t none) : (execOp a.eval o).run P w = .ok (.value (.map (some w.heap.size))) (w.alloc (.map #[] 0)) := by
  unfold execOp
  simp only [ho, Option.map_none, Sem.run_bind, run_makeMap, Result.andThen_ok, Sem.run_pure]
end

theorem ord_read_l {P : Program} {ops : Array Oper} {Q : Exit → Act → World → Prop} {i : Nat} {r : List (Nat × Bool)} {S : World → Prop} {a : Act} {w : World} {o : Oper} {v : Value} (ho : ops.toList[i]? = some o) (hw : Region.wanted o (yielded ops a.tmps) = true)
    (hrun : ∀ W, S W → (execOp a.eval o).run P W = .ok (.value v) W) (h : wpOrd P ops Q r S (a.put o.dst v) w) : wpOrd P ops Q ((i, true) :: r) S a w :=
  ord_read (by rw [← Array.getElem?_toList]; exact ho) hw hrun h
theorem ord_do_l {P : Program} {ops : Array Oper} {Q : Exit → Act → World → Prop} {i : Nat} {r : List (Nat × Bool)} {S : World → Prop} {a : Act} {w : World} {o : Oper} (ho : ops.toList[i]? = some o) (hw : Region.wanted o (yielded ops a.tmps) = true)
    (h : ∀ K : Act → World → Prop, (∀ a' w', (∃ S' : World → Prop, (∀ W, S' W → S W) ∧ S' w' ∧ wpOrd P ops Q r S' a' w') → K a' w') → o.wp P a w K Q) : wpOrd P ops Q ((i, false) :: r) S a w :=
  ord_do (by rw [← Array.getElem?_toList]; exact ho) hw h
def subs : List Nat → List (List Nat)
  | [] => [[]]
  | x :: l => (subs l).map (x :: ·) ++ subs l
def Lst (rem : List Nat) : Array Bool := ((List.range 17).map fun i => !(rem.contains i || i == 15 || i == 16)).toArray
theorem subs_ok : ∀ rem ∈ subs IX, rem.Nodup ∧ ∀ i ∈ rem, i ∈ IX := by decide +kernel

set_option maxRecDepth 100000 in
set_option maxHeartbeats 1000000 in
/-- **policy.layouts**: a map that holds the table. -/
theorem layouts_any (w : World) : Calls Try.prog 21 #[] w fun e w' => (∃ r, e = .returned (.map (some r)) ∧ Holds w' r []) ∧ Below w.heap.size w w' := by
  go_enter Try.func21, Try.ntmps21
  go_wp2_with fail
  refine wp_region_batch [(1, true), (2, true), (4, true), (5, true), (7, true), (9, true), (11, true), (13, true), (0, false)] (subs IX) Lst IX [(15, true), (16, true)] (fun _ => True) rfl (by kernel_rfl) rfl (by kernel_rfl) (by kernel_rfl) (by kernel_rfl) (by kernel_rfl) (fun _ _ d _ _ h => by cases d <;> exact h) trivial ?_
  refine ordC_read_l rfl rfl (fun W _ => by go_simp; rfl) ?_
  simp only [Act.put, List.setIfInBounds_toArray, List.set_cons_zero, List.set_cons_succ]
  refine ordC_read_l rfl rfl (fun W _ => by go_simp; rfl) ?_
  simp only [Act.put, List.setIfInBounds_toArray, List.set_cons_zero, List.set_cons_succ]
  refine ordC_read_l rfl rfl (fun W _ => by go_simp; rfl) ?_
  simp only [Act.put, List.setIfInBounds_toArray, List.set_cons_zero, List.set_cons_succ]
  refine ordC_read_l rfl rfl (fun W _ => by go_simp; rfl) ?_
  simp only [Act.put, List.setIfInBounds_toArray, List.set_cons_zero, List.set_cons_succ]
  refine ordC_read_l rfl rfl (fun W _ => by go_simp; rfl) ?_
  simp only [Act.put, List.setIfInBounds_toArray, List.set_cons_zero, List.set_cons_succ]
  refine ordC_read_l rfl rfl (fun W _ => by go_simp; rfl) ?_
  simp only [Act.put, List.setIfInBounds_toArray, List.set_cons_zero, List.set_cons_succ]
  refine ordC_read_l rfl rfl (fun W _ => by go_simp; rfl) ?_
  simp only [Act.put, List.setIfInBounds_toArray, List.set_cons_zero, List.set_cons_succ]
  refine ordC_read_l rfl rfl (fun W _ => by go_simp; rfl) ?_
  simp only [Act.put, List.setIfInBounds_toArray, List.set_cons_zero, List.set_cons_succ]
  refine ordC_run_l rfl rfl (exec_makeMap rfl) trivial ?_
  simp only [Act.put, List.setIfInBounds_toArray, List.set_cons_zero, List.set_cons_succ]
  refine ⟨fun rem W => Holds W w.heap.size rem ∧ Below w.heap.size w W, fun _ _ _ => trivial, ⟨Holds.made _, ((Below.refl _ w).drew.alloc (Nat.le_refl _) _)⟩, ?_, ?_⟩
  · intro rem hrem i hi W hW
    obtain ⟨hn, hx⟩ := subs_ok rem hrem
    obtain ⟨W', hr, h1, h2⟩ := run_insert hn hi (hx i hi) hW.1 hW.2 (Nat.le_refl _)
    have hix := hx i hi
    simp only [IX, List.mem_cons, List.not_mem_nil, or_false] at hix
    rcases hix with rfl | rfl | rfl | rfl | rfl | rfl
    · exact wpOp_skip rfl rfl rfl (exec_insert rfl rfl rfl rfl hr) ⟨rfl, h1, h2⟩
    · exact wpOp_skip rfl rfl rfl (exec_insert rfl rfl rfl rfl hr) ⟨rfl, h1, h2⟩
    · exact wpOp_skip rfl rfl rfl (exec_insert rfl rfl rfl rfl hr) ⟨rfl, h1, h2⟩
    · exact wpOp_skip rfl rfl rfl (exec_insert rfl rfl rfl rfl hr) ⟨rfl, h1, h2⟩
    · exact wpOp_skip rfl rfl rfl (exec_insert rfl rfl rfl rfl hr) ⟨rfl, h1, h2⟩
    · exact wpOp_skip rfl rfl rfl (exec_insert rfl rfl rfl rfl hr) ⟨rfl, h1, h2⟩
  · intro W hW
    refine ord_read_l rfl rfl (fun W _ => by go_simp; rfl) ?_
    simp only [Act.put, List.setIfInBounds_toArray, List.set_cons_zero, List.set_cons_succ]
    refine ord_read_l rfl rfl (fun W _ => by go_simp; rfl) ?_
    simp only [Act.put, List.setIfInBounds_toArray, List.set_cons_zero]
    refine ord_nil ?_
    go_simp
    go_wp2_with fail
    go_ret
    exact ⟨⟨_, rfl, hW.1⟩, hW.2⟩
end Go.Proofs.Ytihocpbkibfpmaa
