/-
  The walks of symenc.Valid and of its reference.
-/
import Derived.Test.YtaccjnekonmkoaaSeA
namespace Go.Proofs.Ytaccjnekonmkoaa
open Go Go.RowKit

theorem ord_passl {P : Program} {ops : Array Oper} {Q : Exit → Act → World → Prop} {i : Nat} {r : List (Nat × Bool)} {S : World → Prop} {a : Act} {w : World} {o : Oper} (ho : ops.toList[i]? = some o) (hw : Region.wanted o (yielded ops a.tmps) = false)
    (h : wpOrd P ops Q r S (a.put o.dst undef) w) : wpOrd P ops Q ((i, true) :: r) S a w :=
  ord_pass (by rw [← Array.getElem?_toList]; exact ho) hw h
theorem ord_dopassl {P : Program} {ops : Array Oper} {Q : Exit → Act → World → Prop} {i : Nat} {r : List (Nat × Bool)} {S : World → Prop} {a : Act} {w : World} {o : Oper} (ho : ops.toList[i]? = some o) (hw : Region.wanted o (yielded ops a.tmps) = false) (hS : S w)
    (h : wpOrd P ops Q r S (a.put o.dst undef) w) : wpOrd P ops Q ((i, false) :: r) S a w :=
  ord_do_pass (by rw [← Array.getElem?_toList]; exact ho) hw hS h
theorem exec_load_part {P : Program} {w : World} {o : Oper} {a : Act} {ty : TypeId} {x : Operand} (ho : o.op = .load ty x) {g off : Nat} (hx : a.eval x = .pointer (some ⟨g, off, none⟩)) {cs vs : Array Value}
    (hr : RowIs w g cs) (ht : AggTy P ty vs.size) (hv : cs.extract off (off + vs.size) = vs) (hf : off + vs.size ≤ cs.size) : (execOp a.eval o).run P w = .ok (.value (.agg vs)) w := by
  have hrun := exec_load (P := P) (off := off) ho hx hr ht hf
  rwa [hv] at hrun
set_option maxRecDepth 100000 in
set_option maxHeartbeats 1000000 in
theorem evalid_new (l : List Int) (r : Int) (w : World) (hl : l.length = 256) (hn : ((l == new) && (r == 0)) = true) : Calls Try.prog 51 #[.agg (EV l r)] w fun e w' => (e = .returned (.bool (encOk l r))) ∧ Below w.heap.size w w' := by
  have ho : encOk l r = true := by
    simp only [Bool.and_eq_true, beq_iff_eq] at hn
    rw [hn.1, hn.2]; exact encOk_new
  have HO := Lib.hid ho
  clear ho
  go_enter Try.func51, Try.ntmps51
  have hm := Own.nil w
  go_wp2_with (first
    | (refine wpList_box_o hm rfl rfl rfl ?_; intro w1 g hm1; clear hm))
  refine wp_region_ord [(0, true), (1, false), (2, true), (3, true), (4, true), (5, true), (6, true), (7, true), (8, true), (9, true), (10, true), (11, true), (12, true), (13, true), (14, true), (15, false), (16, true), (17, true), (18, true)] (fun W => Below w.heap.size w W ∧ RowIs W g (EV l r)) rfl (by kernel_rfl) rfl (by kernel_rfl) (fun _ _ d _ _ h => by cases d <;> exact h) ⟨(hm1.drawn (w1.drawn + 1)).below, (hm1.drawn (w1.drawn + 1)).row 0 rfl⟩ ?_
  have hm8 := hm1.drawn (w1.drawn + 1)
  generalize ({ w1 with drawn := w1.drawn + 1 } : World) = w8 at hm8 ⊢
  refine ord_readl rfl rfl (fun W hW => exec_load_all rfl rfl hW.2 (aggE _ hl)) ?_
  simp only [Act.put, List.setIfInBounds_toArray, List.set_cons_zero, List.set_cons_succ]
  refine ord_dol rfl rfl (fun K hK => ?_)
  go_simp
  refine (enew_any _).mono ?_
  rintro e w9 ⟨rfl, hb9⟩
  have hm9 := hm8.call hb9
  refine hK _ _ ⟨_, fun _ h => h, ⟨hm9.below, hm9.row 0 rfl⟩, ?_⟩
  clear hK K hm8
  refine ord_readl rfl rfl (fun W hW => exec_eql57 rfl rfl rfl hl len_new hn) ?_
  simp only [Act.put, List.setIfInBounds_toArray, List.set_cons_zero, List.set_cons_succ]
  refine ord_readl rfl rfl (fun W hW => by go_simp; rfl) ?_
  simp only [Act.put, List.setIfInBounds_toArray, List.set_cons_zero, List.set_cons_succ]
  refine ord_passl rfl rfl ?_
  simp only [Act.put, List.setIfInBounds_toArray, List.set_cons_zero, List.set_cons_succ]
  refine ord_passl rfl rfl ?_
  simp only [Act.put, List.setIfInBounds_toArray, List.set_cons_zero, List.set_cons_succ]
  refine ord_passl rfl rfl ?_
  simp only [Act.put, List.setIfInBounds_toArray, List.set_cons_zero, List.set_cons_succ]
  refine ord_passl rfl rfl ?_
  simp only [Act.put, List.setIfInBounds_toArray, List.set_cons_zero, List.set_cons_succ]
  refine ord_passl rfl rfl ?_
  simp only [Act.put, List.setIfInBounds_toArray, List.set_cons_zero, List.set_cons_succ]
  refine ord_passl rfl rfl ?_
  simp only [Act.put, List.setIfInBounds_toArray, List.set_cons_zero, List.set_cons_succ]
  refine ord_passl rfl rfl ?_
  simp only [Act.put, List.setIfInBounds_toArray, List.set_cons_zero, List.set_cons_succ]
  refine ord_passl rfl rfl ?_
  simp only [Act.put, List.setIfInBounds_toArray, List.set_cons_zero, List.set_cons_succ]
  refine ord_passl rfl rfl ?_
  simp only [Act.put, List.setIfInBounds_toArray, List.set_cons_zero, List.set_cons_succ]
  refine ord_passl rfl rfl ?_
  simp only [Act.put, List.setIfInBounds_toArray, List.set_cons_zero, List.set_cons_succ]
  refine ord_passl rfl rfl ?_
  simp only [Act.put, List.setIfInBounds_toArray, List.set_cons_zero, List.set_cons_succ]
  refine ord_dopassl rfl rfl ⟨hm9.below, hm9.row 0 rfl⟩ ?_
  simp only [Act.put, List.setIfInBounds_toArray, List.set_cons_zero, List.set_cons_succ]
  refine ord_passl rfl rfl ?_
  simp only [Act.put, List.setIfInBounds_toArray, List.set_cons_zero, List.set_cons_succ]
  refine ord_readl rfl rfl (fun W hW => by go_simp; rfl) ?_
  simp only [Act.put, List.setIfInBounds_toArray, List.set_cons_zero, List.set_cons_succ]
  refine ord_readl rfl rfl (fun W hW => by go_simp; rfl) ?_
  simp only [Act.put, List.setIfInBounds_toArray, List.set_cons_zero, List.set_cons_succ]
  refine ord_nil ?_
  go_simp
  go_wp2
  go_ret
  exact ⟨by rw [HO.out]; rfl, hm9.below⟩
set_option maxRecDepth 100000 in
set_option maxHeartbeats 1000000 in
theorem evalid_neg (l : List Int) (r : Int) (w : World) (hl : l.length = 256) (hn : ((l == new) && (r == 0)) = false) (h0 : r < 0) : Calls Try.prog 51 #[.agg (EV l r)] w fun e w' => (e = .returned (.bool (encOk l r))) ∧ Below w.heap.size w w' := by
  have ho : encOk l r = false := by
    rw [encOk, decide_eq_false (by omega), Bool.and_false]
  have q0 : decide (0 ≤ r) = false := decide_eq_false (by omega)
  have HO := Lib.hid ho
  clear ho
  go_enter Try.func51, Try.ntmps51
  have hm := Own.nil w
  go_wp2_with (first
    | (refine wpList_box_o hm rfl rfl rfl ?_; intro w1 g hm1; clear hm))
  refine wp_region_ord [(0, true), (1, false), (2, true), (3, true), (4, true), (5, true), (6, true), (7, true), (8, true), (9, true), (10, true), (11, true), (12, true), (13, true), (14, true), (15, false), (16, true), (17, true), (18, true)] (fun W => Below w.heap.size w W ∧ RowIs W g (EV l r)) rfl (by kernel_rfl) rfl (by kernel_rfl) (fun _ _ d _ _ h => by cases d <;> exact h) ⟨(hm1.drawn (w1.drawn + 1)).below, (hm1.drawn (w1.drawn + 1)).row 0 rfl⟩ ?_
  have hm8 := hm1.drawn (w1.drawn + 1)
  generalize ({ w1 with drawn := w1.drawn + 1 } : World) = w8 at hm8 ⊢
  refine ord_readl rfl rfl (fun W hW => exec_load_all rfl rfl hW.2 (aggE _ hl)) ?_
  simp only [Act.put, List.setIfInBounds_toArray, List.set_cons_zero, List.set_cons_succ]
  refine ord_dol rfl rfl (fun K hK => ?_)
  go_simp
  refine (enew_any _).mono ?_
  rintro e w9 ⟨rfl, hb9⟩
  have hm9 := hm8.call hb9
  refine hK _ _ ⟨_, fun _ h => h, ⟨hm9.below, hm9.row 0 rfl⟩, ?_⟩
  clear hK K hm8
  refine ord_readl rfl rfl (fun W hW => exec_eql57 rfl rfl rfl hl len_new hn) ?_
  simp only [Act.put, List.setIfInBounds_toArray, List.set_cons_zero, List.set_cons_succ]
  refine ord_readl rfl rfl (fun W hW => by go_simp; rfl) ?_
  simp only [Act.put, List.setIfInBounds_toArray, List.set_cons_zero, List.set_cons_succ]
  refine ord_readl rfl rfl (fun W hW => by go_simp; rfl) ?_
  simp only [Act.put, List.setIfInBounds_toArray, List.set_cons_zero, List.set_cons_succ]
  refine ord_readl rfl rfl (fun W hW => exec_loadcell' rfl rfl hW.2 one3 (run_EV _ hl)) ?_
  simp only [Act.put, List.setIfInBounds_toArray, List.set_cons_zero, List.set_cons_succ]
  refine ord_readl rfl rfl (fun W hW => by go_simp; rfl) ?_
  simp only [Act.put, List.setIfInBounds_toArray, List.set_cons_zero, List.set_cons_succ]
  refine ord_readl rfl rfl (fun W hW => by go_simp; rfl) ?_
  simp only [Act.put, List.setIfInBounds_toArray, List.set_cons_zero, List.set_cons_succ]
  refine ord_passl rfl rfl ?_
  simp only [Act.put, List.setIfInBounds_toArray, List.set_cons_zero, List.set_cons_succ]
  refine ord_passl rfl rfl ?_
  simp only [Act.put, List.setIfInBounds_toArray, List.set_cons_zero, List.set_cons_succ]
  refine ord_passl rfl rfl ?_
  simp only [Act.put, List.setIfInBounds_toArray, List.set_cons_zero, List.set_cons_succ]
  refine ord_readl rfl rfl (fun W hW => by go_simp; rfl) ?_
  simp only [Act.put, List.setIfInBounds_toArray, List.set_cons_zero, List.set_cons_succ]
  refine ord_readl rfl rfl (fun W hW => by go_simp; rfl) ?_
  simp only [Act.put, List.setIfInBounds_toArray, List.set_cons_zero, List.set_cons_succ]
  refine ord_passl rfl rfl ?_
  simp only [Act.put, List.setIfInBounds_toArray, List.set_cons_zero, List.set_cons_succ]
  refine ord_passl rfl rfl ?_
  simp only [Act.put, List.setIfInBounds_toArray, List.set_cons_zero, List.set_cons_succ]
  refine ord_dopassl rfl rfl ⟨hm9.below, hm9.row 0 rfl⟩ ?_
  simp only [Act.put, List.setIfInBounds_toArray, List.set_cons_zero, List.set_cons_succ]
  refine ord_readl rfl rfl (fun W hW => by go_simp; rfl) ?_
  simp only [Act.put, List.setIfInBounds_toArray, List.set_cons_zero, List.set_cons_succ]
  refine ord_readl rfl rfl (fun W hW => by go_simp; rfl) ?_
  simp only [Act.put, List.setIfInBounds_toArray, List.set_cons_zero, List.set_cons_succ]
  refine ord_readl rfl rfl (fun W hW => by go_simp; rfl) ?_
  simp only [Act.put, List.setIfInBounds_toArray, List.set_cons_zero, List.set_cons_succ]
  refine ord_nil ?_
  go_simp
  go_wp2
  go_ret
  exact ⟨by rw [HO.out]; rfl, hm9.below⟩
set_option maxRecDepth 100000 in
set_option maxHeartbeats 1000000 in
theorem evalid_big (l : List Int) (r : Int) (w : World) (hl : l.length = 256) (hn : ((l == new) && (r == 0)) = false) (h0 : 2147483647 < r) : Calls Try.prog 51 #[.agg (EV l r)] w fun e w' => (e = .returned (.bool (encOk l r))) ∧ Below w.heap.size w w' := by
  have ho : encOk l r = false := by
    rw [encOk, decide_eq_false (by omega), Bool.and_false]
  have q0 : decide (0 ≤ r) = true := decide_eq_true (by omega)
  have q1 : decide (r ≤ 2147483647) = false := decide_eq_false (by omega)
  have HO := Lib.hid ho
  clear ho
  go_enter Try.func51, Try.ntmps51
  have hm := Own.nil w
  go_wp2_with (first
    | (refine wpList_box_o hm rfl rfl rfl ?_; intro w1 g hm1; clear hm))
  refine wp_region_ord [(0, true), (1, false), (2, true), (3, true), (4, true), (5, true), (6, true), (7, true), (8, true), (9, true), (10, true), (11, true), (12, true), (13, true), (14, true), (15, false), (16, true), (17, true), (18, true)] (fun W => Below w.heap.size w W ∧ RowIs W g (EV l r)) rfl (by kernel_rfl) rfl (by kernel_rfl) (fun _ _ d _ _ h => by cases d <;> exact h) ⟨(hm1.drawn (w1.drawn + 1)).below, (hm1.drawn (w1.drawn + 1)).row 0 rfl⟩ ?_
  have hm8 := hm1.drawn (w1.drawn + 1)
  generalize ({ w1 with drawn := w1.drawn + 1 } : World) = w8 at hm8 ⊢
  refine ord_readl rfl rfl (fun W hW => exec_load_all rfl rfl hW.2 (aggE _ hl)) ?_
  simp only [Act.put, List.setIfInBounds_toArray, List.set_cons_zero, List.set_cons_succ]
  refine ord_dol rfl rfl (fun K hK => ?_)
  go_simp
  refine (enew_any _).mono ?_
  rintro e w9 ⟨rfl, hb9⟩
  have hm9 := hm8.call hb9
  refine hK _ _ ⟨_, fun _ h => h, ⟨hm9.below, hm9.row 0 rfl⟩, ?_⟩
  clear hK K hm8
  refine ord_readl rfl rfl (fun W hW => exec_eql57 rfl rfl rfl hl len_new hn) ?_
  simp only [Act.put, List.setIfInBounds_toArray, List.set_cons_zero, List.set_cons_succ]
  refine ord_readl rfl rfl (fun W hW => by go_simp; rfl) ?_
  simp only [Act.put, List.setIfInBounds_toArray, List.set_cons_zero, List.set_cons_succ]
  refine ord_readl rfl rfl (fun W hW => by go_simp; rfl) ?_
  simp only [Act.put, List.setIfInBounds_toArray, List.set_cons_zero, List.set_cons_succ]
  refine ord_readl rfl rfl (fun W hW => exec_loadcell' rfl rfl hW.2 one3 (run_EV _ hl)) ?_
  simp only [Act.put, List.setIfInBounds_toArray, List.set_cons_zero, List.set_cons_succ]
  refine ord_readl rfl rfl (fun W hW => by go_simp; rfl) ?_
  simp only [Act.put, List.setIfInBounds_toArray, List.set_cons_zero, List.set_cons_succ]
  refine ord_readl rfl rfl (fun W hW => by go_simp; rfl) ?_
  simp only [Act.put, List.setIfInBounds_toArray, List.set_cons_zero, List.set_cons_succ]
  refine ord_readl rfl rfl (fun W hW => by go_simp; rfl) ?_
  simp only [Act.put, List.setIfInBounds_toArray, List.set_cons_zero, List.set_cons_succ]
  refine ord_readl rfl rfl (fun W hW => exec_loadcell' rfl rfl hW.2 one3 (run_EV _ hl)) ?_
  simp only [Act.put, List.setIfInBounds_toArray, List.set_cons_zero, List.set_cons_succ]
  refine ord_readl rfl rfl (fun W hW => by go_simp; rfl) ?_
  simp only [Act.put, List.setIfInBounds_toArray, List.set_cons_zero, List.set_cons_succ]
  refine ord_readl rfl rfl (fun W hW => by go_simp; rfl) ?_
  simp only [Act.put, List.setIfInBounds_toArray, List.set_cons_zero, List.set_cons_succ]
  refine ord_readl rfl rfl (fun W hW => by go_simp; rfl) ?_
  simp only [Act.put, List.setIfInBounds_toArray, List.set_cons_zero, List.set_cons_succ]
  refine ord_passl rfl rfl ?_
  simp only [Act.put, List.setIfInBounds_toArray, List.set_cons_zero, List.set_cons_succ]
  refine ord_passl rfl rfl ?_
  simp only [Act.put, List.setIfInBounds_toArray, List.set_cons_zero, List.set_cons_succ]
  refine ord_dopassl rfl rfl ⟨hm9.below, hm9.row 0 rfl⟩ ?_
  simp only [Act.put, List.setIfInBounds_toArray, List.set_cons_zero, List.set_cons_succ]
  refine ord_readl rfl rfl (fun W hW => by go_simp; rfl) ?_
  simp only [Act.put, List.setIfInBounds_toArray, List.set_cons_zero, List.set_cons_succ]
  refine ord_readl rfl rfl (fun W hW => by go_simp; rfl) ?_
  simp only [Act.put, List.setIfInBounds_toArray, List.set_cons_zero, List.set_cons_succ]
  refine ord_readl rfl rfl (fun W hW => by go_simp; rfl) ?_
  simp only [Act.put, List.setIfInBounds_toArray, List.set_cons_zero, List.set_cons_succ]
  refine ord_nil ?_
  go_simp
  go_wp2
  go_ret
  exact ⟨by rw [HO.out]; rfl, hm9.below⟩
set_option maxRecDepth 100000 in
set_option maxHeartbeats 1000000 in
theorem evalid_in (l : List Int) (r : Int) (w : World) (hl : l.length = 256) (hb : Bytes l) (hn : ((l == new) && (r == 0)) = false) (h0 : 0 ≤ r ∧ r ≤ 2147483647) : Calls Try.prog 51 #[.agg (EV l r)] w fun e w' => (e = .returned (.bool (encOk l r))) ∧ Below w.heap.size w w' := by
  have ho : encOk l r = vld l := by
    rw [encOk, decide_eq_true h0, Bool.and_true]
  have q0 : decide (0 ≤ r) = true := decide_eq_true (by omega)
  have q1 : decide (r ≤ 2147483647) = true := decide_eq_true (by omega)
  have HO := Lib.hid ho
  clear ho
  go_enter Try.func51, Try.ntmps51
  have hm := Own.nil w
  go_wp2_with (first
    | (refine wpList_box_o hm rfl rfl rfl ?_; intro w1 g hm1; clear hm))
  refine wp_region_ord [(0, true), (1, false), (2, true), (3, true), (4, true), (5, true), (6, true), (7, true), (8, true), (9, true), (10, true), (11, true), (12, true), (13, true), (14, true), (15, false), (16, true), (17, true), (18, true)] (fun W => Below w.heap.size w W ∧ RowIs W g (EV l r)) rfl (by kernel_rfl) rfl (by kernel_rfl) (fun _ _ d _ _ h => by cases d <;> exact h) ⟨(hm1.drawn (w1.drawn + 1)).below, (hm1.drawn (w1.drawn + 1)).row 0 rfl⟩ ?_
  have hm8 := hm1.drawn (w1.drawn + 1)
  generalize ({ w1 with drawn := w1.drawn + 1 } : World) = w8 at hm8 ⊢
  refine ord_readl rfl rfl (fun W hW => exec_load_all rfl rfl hW.2 (aggE _ hl)) ?_
  simp only [Act.put, List.setIfInBounds_toArray, List.set_cons_zero, List.set_cons_succ]
  refine ord_dol rfl rfl (fun K hK => ?_)
  go_simp
  refine (enew_any _).mono ?_
  rintro e w9 ⟨rfl, hb9⟩
  have hm9 := hm8.call hb9
  refine hK _ _ ⟨_, fun _ h => h, ⟨hm9.below, hm9.row 0 rfl⟩, ?_⟩
  clear hK K hm8
  refine ord_readl rfl rfl (fun W hW => exec_eql57 rfl rfl rfl hl len_new hn) ?_
  simp only [Act.put, List.setIfInBounds_toArray, List.set_cons_zero, List.set_cons_succ]
  refine ord_readl rfl rfl (fun W hW => by go_simp; rfl) ?_
  simp only [Act.put, List.setIfInBounds_toArray, List.set_cons_zero, List.set_cons_succ]
  refine ord_readl rfl rfl (fun W hW => by go_simp; rfl) ?_
  simp only [Act.put, List.setIfInBounds_toArray, List.set_cons_zero, List.set_cons_succ]
  refine ord_readl rfl rfl (fun W hW => exec_loadcell' rfl rfl hW.2 one3 (run_EV _ hl)) ?_
  simp only [Act.put, List.setIfInBounds_toArray, List.set_cons_zero, List.set_cons_succ]
  refine ord_readl rfl rfl (fun W hW => by go_simp; rfl) ?_
  simp only [Act.put, List.setIfInBounds_toArray, List.set_cons_zero, List.set_cons_succ]
  refine ord_readl rfl rfl (fun W hW => by go_simp; rfl) ?_
  simp only [Act.put, List.setIfInBounds_toArray, List.set_cons_zero, List.set_cons_succ]
  refine ord_readl rfl rfl (fun W hW => by go_simp; rfl) ?_
  simp only [Act.put, List.setIfInBounds_toArray, List.set_cons_zero, List.set_cons_succ]
  refine ord_readl rfl rfl (fun W hW => exec_loadcell' rfl rfl hW.2 one3 (run_EV _ hl)) ?_
  simp only [Act.put, List.setIfInBounds_toArray, List.set_cons_zero, List.set_cons_succ]
  refine ord_readl rfl rfl (fun W hW => by go_simp; rfl) ?_
  simp only [Act.put, List.setIfInBounds_toArray, List.set_cons_zero, List.set_cons_succ]
  refine ord_readl rfl rfl (fun W hW => by go_simp; rfl) ?_
  simp only [Act.put, List.setIfInBounds_toArray, List.set_cons_zero, List.set_cons_succ]
  refine ord_readl rfl rfl (fun W hW => by go_simp; rfl) ?_
  simp only [Act.put, List.setIfInBounds_toArray, List.set_cons_zero, List.set_cons_succ]
  refine ord_readl rfl rfl (fun W hW => by go_simp; rfl) ?_
  simp only [Act.put, List.setIfInBounds_toArray, List.set_cons_zero, List.set_cons_succ]
  refine ord_readl rfl rfl (fun W hW => exec_load_part rfl rfl hW.2 (aggB _ hl) (extract_EV _ hl) (by rw [size_B, size_EV _ hl, hl]; omega)) ?_
  simp only [Act.put, List.setIfInBounds_toArray, List.set_cons_zero, List.set_cons_succ]
  refine ord_dol rfl rfl (fun K hK => ?_)
  go_simp
  refine (valid_any _ _ hl hb).mono ?_
  rintro e w10 ⟨rfl, hb10⟩
  have hm10 := hm9.call hb10
  refine hK _ _ ⟨_, fun _ h => h, ⟨hm10.below, hm10.row 0 rfl⟩, ?_⟩
  clear hK K hm9
  refine ord_readl rfl rfl (fun W hW => by go_simp; rfl) ?_
  simp only [Act.put, List.setIfInBounds_toArray, List.set_cons_zero, List.set_cons_succ]
  refine ord_readl rfl rfl (fun W hW => by go_simp; rfl) ?_
  simp only [Act.put, List.setIfInBounds_toArray, List.set_cons_zero, List.set_cons_succ]
  refine ord_readl rfl rfl (fun W hW => by go_simp; rfl) ?_
  simp only [Act.put, List.setIfInBounds_toArray, List.set_cons_zero, List.set_cons_succ]
  refine ord_nil ?_
  go_simp
  go_wp2
  go_ret
  exact ⟨by rw [HO.out]; rfl, hm10.below⟩
theorem evalid_any (l : List Int) (r : Int) (w : World) (hl : l.length = 256) (hb : Bytes l) : Calls Try.prog 51 #[.agg (EV l r)] w fun e w' => (e = .returned (.bool (encOk l r))) ∧ Below w.heap.size w w' := by
  cases hn : ((l == new) && (r == 0)) with
  | true => exact evalid_new l r w hl hn
  | false =>
    by_cases h0 : r < 0
    · exact evalid_neg l r w hl hn h0
    by_cases h1 : 2147483647 < r
    · exact evalid_big l r w hl hn h1
    exact evalid_in l r w hl hb hn ⟨by omega, by omega⟩
set_option maxRecDepth 100000 in
set_option maxHeartbeats 1000000 in
theorem revalid_any (l : List Int) (r : Int) (w : World) (hl : l.length = 256) (hb : Bytes l) : Calls Try.prog 52 #[.agg (EV l r)] w fun e w' => (e = .returned (.bool (encOk l r))) ∧ Below w.heap.size w w' := by
  have ho : encOk l r = (vld l && decide (0 ≤ r ∧ r ≤ 2147483647)) := rfl
  have HO := Lib.hid ho
  have CV : Hid (∀ w, Calls Try.prog 26 #[.agg (B l)] w fun e w' => (e = .returned (.bool (vld l))) ∧ Below w.heap.size w w') := Lib.hid (fun w => by rw [vld_dis hl hb]; exact rvalid_any l w hl)
  clear ho
  generalize vld l = V at *
  by_cases h0 : 0 ≤ r ∧ r ≤ 2147483647
  · obtain ⟨h0, h1⟩ := h0
    have q0 : decide (0 ≤ r) = true := decide_eq_true h0
    have q1 : decide (r ≤ 2147483647) = true := decide_eq_true h1
    cases V
    · go_enter Try.func52, Try.ntmps52
      have hm := Own.nil w
      go_wp2_with (first
        | (refine wpList_box_o hm rfl rfl rfl ?_; intro w1 g hm1; clear hm)
        | (refine wpList_load_part rfl rfl rfl (hm1.row 0 rfl) (aggB _ hl) (extract_EV _ hl) (by rw [size_B, size_EV _ hl, hl]; omega) ?_)
        | (refine wpList_run rfl (exec_loadcell' rfl rfl (hm2.row 0 rfl) one3 (run_EV _ hl)) ?_)
        | (go_at_call 26; have _t := hm1; refine (CV.out _).mono ?_; rintro e w2 ⟨rfl, hb2⟩; have hm2 := hm1.call hb2; clear hm1))
      go_ret
      exact ⟨by rw [HO.out]; rfl, hm2.below⟩
    · go_enter Try.func52, Try.ntmps52
      have hm := Own.nil w
      go_wp2_with (first
        | (refine wpList_box_o hm rfl rfl rfl ?_; intro w1 g hm1; clear hm)
        | (refine wpList_load_part rfl rfl rfl (hm1.row 0 rfl) (aggB _ hl) (extract_EV _ hl) (by rw [size_B, size_EV _ hl, hl]; omega) ?_)
        | (refine wpList_run rfl (exec_loadcell' rfl rfl (hm2.row 0 rfl) one3 (run_EV _ hl)) ?_)
        | (go_at_call 26; have _t := hm1; refine (CV.out _).mono ?_; rintro e w2 ⟨rfl, hb2⟩; have hm2 := hm1.call hb2; clear hm1))
      go_ret
      exact ⟨by rw [HO.out]; rw [decide_eq_true ⟨h0, h1⟩]; rfl, hm2.below⟩
  · have HF : Hid (decide (0 ≤ r ∧ r ≤ 2147483647) = false) := Lib.hid (decide_eq_false h0)
    by_cases h1 : r < 0
    · have q0 : decide (0 ≤ r) = false := decide_eq_false (by omega)
      clear h0
      cases V
      · go_enter Try.func52, Try.ntmps52
        have hm := Own.nil w
        go_wp2_with (first
          | (refine wpList_box_o hm rfl rfl rfl ?_; intro w1 g hm1; clear hm)
          | (refine wpList_load_part rfl rfl rfl (hm1.row 0 rfl) (aggB _ hl) (extract_EV _ hl) (by rw [size_B, size_EV _ hl, hl]; omega) ?_)
          | (refine wpList_run rfl (exec_loadcell' rfl rfl (hm2.row 0 rfl) one3 (run_EV _ hl)) ?_)
          | (go_at_call 26; have _t := hm1; refine (CV.out _).mono ?_; rintro e w2 ⟨rfl, hb2⟩; have hm2 := hm1.call hb2; clear hm1))
        go_ret
        exact ⟨by rw [HO.out]; rw [HF.out]; rfl, hm2.below⟩
      · go_enter Try.func52, Try.ntmps52
        have hm := Own.nil w
        go_wp2_with (first
          | (refine wpList_box_o hm rfl rfl rfl ?_; intro w1 g hm1; clear hm)
          | (refine wpList_load_part rfl rfl rfl (hm1.row 0 rfl) (aggB _ hl) (extract_EV _ hl) (by rw [size_B, size_EV _ hl, hl]; omega) ?_)
          | (refine wpList_run rfl (exec_loadcell' rfl rfl (hm2.row 0 rfl) one3 (run_EV _ hl)) ?_)
          | (go_at_call 26; have _t := hm1; refine (CV.out _).mono ?_; rintro e w2 ⟨rfl, hb2⟩; have hm2 := hm1.call hb2; clear hm1))
        go_ret
        exact ⟨by rw [HO.out]; rw [HF.out]; rfl, hm2.below⟩
    · have h2 : 2147483647 < r := by omega
      have h3 : 0 ≤ r := by omega
      have q0 : decide (0 ≤ r) = true := decide_eq_true (by omega)
      have q1 : decide (r ≤ 2147483647) = false := decide_eq_false (by omega)
      clear h0
      cases V
      · go_enter Try.func52, Try.ntmps52
        have hm := Own.nil w
        go_wp2_with (first
          | (refine wpList_box_o hm rfl rfl rfl ?_; intro w1 g hm1; clear hm)
          | (refine wpList_load_part rfl rfl rfl (hm1.row 0 rfl) (aggB _ hl) (extract_EV _ hl) (by rw [size_B, size_EV _ hl, hl]; omega) ?_)
          | (refine wpList_run rfl (exec_loadcell' rfl rfl (hm2.row 0 rfl) one3 (run_EV _ hl)) ?_)
          | (go_at_call 26; have _t := hm1; refine (CV.out _).mono ?_; rintro e w2 ⟨rfl, hb2⟩; have hm2 := hm1.call hb2; clear hm1))
        go_ret
        exact ⟨by rw [HO.out]; rw [HF.out]; rfl, hm2.below⟩
      · go_enter Try.func52, Try.ntmps52
        have hm := Own.nil w
        go_wp2_with (first
          | (refine wpList_box_o hm rfl rfl rfl ?_; intro w1 g hm1; clear hm)
          | (refine wpList_load_part rfl rfl rfl (hm1.row 0 rfl) (aggB _ hl) (extract_EV _ hl) (by rw [size_B, size_EV _ hl, hl]; omega) ?_)
          | (refine wpList_run rfl (exec_loadcell' rfl rfl (hm2.row 0 rfl) one3 (run_EV _ hl)) ?_)
          | (go_at_call 26; have _t := hm1; refine (CV.out _).mono ?_; rintro e w2 ⟨rfl, hb2⟩; have hm2 := hm1.call hb2; clear hm1))
        go_ret
        exact ⟨by rw [HO.out]; rw [HF.out]; rfl, hm2.below⟩
end Go.Proofs.Ytaccjnekonmkoaa
