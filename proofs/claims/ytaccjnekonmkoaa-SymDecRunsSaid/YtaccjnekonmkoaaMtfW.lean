/-
  The walk of the laws' own examples (winepresslaw13.wakes): it returns true.
-/
import Derived.Test.YtaccjnekonmkoaaMtfE
import Derived.Deep.CutRange
namespace Go.Proofs.Ytaccjnekonmkoaa
open Go Go.RowKit

/-- One operation that leaves the world alone. -/
theorem wpList_val {P : Program} {ops : Array Oper} {rest : List Oper} {o : Oper} {a : Act} {w : World} {Q : Exit → Act → World → Prop} {v : Value} (hg : Region.wanted o (yielded ops a.tmps) = true)
    (hrun : (execOp a.eval o).run P w = .ok (.value v) w) (h : wpList P ops Q rest (a.put o.dst v) w) : wpList P ops Q (o :: rest) a w := wpList_run hg hrun h
theorem exec_eql23 {o : Oper} {a : Act} {w : World} {t' : TypeId} {x y : Operand} (ho : o.op = .binOp .eql 23 x y t') {l m : List Int} (hx : a.eval x = .agg (B l)) (hy : a.eval y = .agg (B m)) (hl : l.length = 256) (hm : m.length = 256) {b : Bool} (hb : (l == m) = b) :
    (execOp a.eval o).run Try.prog w = .ok (.value (.bool b)) w := by
  subst hb
  obtain ⟨i5, hi5⟩ := info5
  exact exec_eql_ints (k := .u8) ho hx hy (by kernel_rfl) Try.underlying23 Try.underlying5 hi5 (by kernel_rfl) hl hm
theorem exec_neq23 {o : Oper} {a : Act} {w : World} {t' : TypeId} {x y : Operand} (ho : o.op = .binOp .neq 23 x y t') {l m : List Int} (hx : a.eval x = .agg (B l)) (hy : a.eval y = .agg (B m)) (hl : l.length = 256) (hm : m.length = 256) {b : Bool} (hb : (!(l == m)) = b) :
    (execOp a.eval o).run Try.prog w = .ok (.value (.bool b)) w := by
  subst hb
  obtain ⟨i5, hi5⟩ := info5
  exact exec_neq_ints (k := .u8) ho hx hy (by kernel_rfl) Try.underlying23 Try.underlying5 hi5 (by kernel_rfl) hl hm
theorem exec_build4 {o : Oper} {a : Act} {w : World} {x0 x1 x2 x3 : Operand} (ho : o.op = .buildSlice 24 4 #[(0, x0), (1, x1), (2, x2), (3, x3)]) {v0 v1 v2 v3 : Int} (h0 : a.eval x0 = .int .u8 v0) (h1 : a.eval x1 = .int .u8 v1) (h2 : a.eval x2 = .int .u8 v2) (h3 : a.eval x3 = .int .u8 v3) :
    (execOp a.eval o).run Try.prog w = .ok (.value (.slice (some ⟨w.heap.size, 0, none⟩) 4 4)) (w.alloc (.cells (B [v0, v1, v2, v3]) 5)) := by
  unfold execOp
  obtain ⟨i5, he⟩ := el24
  have hz : (zeroValue 5).run Try.prog w = .ok (.int .u8 0) w := by simp [zeroValue, typeInfo, he.info, he.zero]
  have hr : Array.range 4 = #[0, 1, 2, 3] := by decide
  simp only [ho, Instr.buildSlice, Sem.run_bind, run_underlying he.under, Result.andThen_ok, sizeOf, typeInfo, run_program, he.info, List.map_toArray, List.map_cons, List.map_nil, h0, h1, h2, h3]
  simp [Instr.fill, Value.cells, he.size, newRow, hz, Result.andThen, hr, B, vs]
theorem In.row {w : World} {g : Nat} {l : List Int} (h : RowIs w g (B l)) (c : Nat) : In .u8 w (.slice (some ⟨g, 0, none⟩) l.length c) l :=
  ⟨_, c, rfl, fun i hi => ⟨_, rfl, by rw [Addr.add_lit, Nat.zero_add, h.cell, get_B l i hi]⟩⟩

theorem wpList_build4_o {ops : Array Oper} {rest : List Oper} {o : Oper} {a : Act} {w0 w : World} {Q : Exit → Act → World → Prop} {rs : List (Nat × Array Value)} {ss : List Sl} (v0 v1 v2 v3 : Int) (hm : Own w0 w rs ss) (hgd : Region.wanted o (yielded ops a.tmps) = true)
    {x0 x1 x2 x3 : Operand} (ho : o.op = .buildSlice 24 4 #[(0, x0), (1, x1), (2, x2), (3, x3)]) (h0 : a.eval x0 = .int .u8 v0) (h1 : a.eval x1 = .int .u8 v1) (h2 : a.eval x2 = .int .u8 v2) (h3 : a.eval x3 = .int .u8 v3)
    (h : ∀ w' g, Own w0 w' ((g, B [v0, v1, v2, v3]) :: rs) ss → wpList Try.prog ops Q rest (a.put o.dst (.slice (some ⟨g, 0, none⟩) 4 4)) w') : wpList Try.prog ops Q (o :: rest) a w :=
  wpList_run hgd (exec_build4 ho h0 h1 h2 h3) (h _ _ (hm.alloc _ 5))
theorem owns_shape {w : World} {base : Nat} {e : TypeId} {v : Value} {n : Nat} {xs : List Value} (h : w.ownsRow base e 1 v n xs) : ∃ a c, v = .slice a n c := by
  rcases h.2 with ⟨rfl, h0⟩ | ⟨g, cap, cur, rfl, _⟩
  · exact ⟨none, 0, by rw [h0]⟩
  · exact ⟨_, _, rfl⟩
theorem In.nil (k : IntKind) (w : World) : In k w (.slice none 0 0) [] := ⟨none, 0, rfl, fun i hi => absurd hi (by simp)⟩
theorem len_forth (b : List Int) : (forth b).length = b.length := len_plc b new
theorem len_back (b : List Int) : (back b).length = b.length := len_bck b new
theorem owns_len {w : World} {base : Nat} {e : TypeId} {v : Value} {n : Nat} {k : IntKind} {xs : List Int} (h : w.ownsRow base e 1 v n (vs k xs)) (hn : xs.length = n) : w.ownsRow base e 1 v (vs k xs).length (vs k xs) := by
  rw [length_vs, hn]; exact h

/-- The list behind 2. -/
def O2 : List Int := putL new 2
def Q2 : List Int := takeL O2 1
theorem vl_O2 : Vl O2 := vl_new.putL 2
theorem len_Q2 : Q2.length = 256 := len_takeL _ _ vl_O2.len
theorem bytes_zeros : Bytes zeros := by
  intro x hx
  have := List.eq_of_mem_replicate hx
  omega

theorem factP1 : pos new 2 = 2 := by decide +kernel
theorem factP2 : takeC O2 1 = 0 := by decide +kernel
theorem factP3 : takeB 256 = false := by decide +kernel
theorem factP4 : pos zeros 7 = -1 := by decide +kernel
theorem factP5 : putL zeros 7 = zeros := by decide +kernel
theorem factP6 : takeB 1 = true := by decide +kernel
theorem factPV : vld O2 = true := by decide +kernel
theorem factPN : vld zeros = false := by decide +kernel
theorem byt4 (l : List Int) (h : (l.all fun x => decide (0 ≤ x ∧ x < 256)) = true) : Bytes l := fun x hx => by simpa using List.all_eq_true.1 h x hx
theorem cellO0 : (B O2)[0]? = some (.int .u8 2) := by rw [get_B O2 0 (by rw [vl_O2.len]; omega), show gi O2 0 = 2 by decide +kernel]
theorem cellO1 : (B O2)[1]? = some (.int .u8 0) := by rw [get_B O2 1 (by rw [vl_O2.len]; omega), show gi O2 1 = 0 by decide +kernel]
theorem cellO2 : (B O2)[2]? = some (.int .u8 1) := by rw [get_B O2 2 (by rw [vl_O2.len]; omega), show gi O2 2 = 1 by decide +kernel]
theorem cellO3 : (B O2)[3]? = some (.int .u8 3) := by rw [get_B O2 3 (by rw [vl_O2.len]; omega), show gi O2 3 = 3 by decide +kernel]
theorem cellQ0 : (B Q2)[0]? = some (.int .u8 0) := by rw [get_B Q2 0 (by rw [len_Q2]; omega), show gi Q2 0 = 0 by decide +kernel]
theorem cellQ1 : (B Q2)[1]? = some (.int .u8 2) := by rw [get_B Q2 1 (by rw [len_Q2]; omega), show gi Q2 1 = 2 by decide +kernel]
theorem cellN : (B new)[255]? = some (.int .u8 255) := by rw [get_B new 255 (by rw [len_new]; omega), show gi new 255 = 255 by decide +kernel]
theorem factF : forth [2, 2, 0, 1] = [2, 0, 1, 2] := by decide +kernel
theorem factB : back [2, 0, 1, 2] = [2, 2, 0, 1] := by decide +kernel
theorem factE1 : ((str (forth [2, 2, 0, 1])).toList == ({ data := #[2, 0, 1, 2] } : ByteArray).toList) = true := by decide +kernel
theorem factE2 : ((str (back [2, 0, 1, 2])).toList == ({ data := #[2, 2, 0, 1] } : ByteArray).toList) = true := by decide +kernel

set_option maxRecDepth 100000 in
set_option maxHeartbeats 4000000 in
theorem wakes13 (w : World) : Calls Try.prog 20 #[] w fun e w' => e = .returned (.bool true) ∧ Below w.heap.size w w' := by
  have P1 : Hid (pos new 2 = 2) := factP1
  have P2 : Hid (takeC O2 1 = 0) := factP2
  have P3 : Hid (takeB 256 = false) := factP3
  have P4 : Hid (pos zeros 7 = -1) := factP4
  have P5 : Hid (putL zeros 7 = zeros) := factP5
  have P6 : Hid (takeB 1 = true) := factP6
  have PV : Hid (vld O2 = true) := factPV
  have PN : Hid (vld zeros = false) := factPN
  have PO : Hid (putL new 2 = O2) := rfl
  have PQ : Hid (takeL O2 1 = Q2) := rfl
  have PR : Hid (takeL O2 256 = O2) := rfl
  have PT : Hid (takeC O2 256 = 0) := rfl
  go_enter Try.func20, Try.ntmps20
  have hm := Own.nil w
  go_upto_region 7 with (first
      | (go_at_call 27; refine (new_any _).mono ?_; rintro e w1 ⟨rfl, hb1⟩; have hm1 := hm.call hb1; clear hm)
      | (refine wpList_alloc_o hm1 rfl rfl zero23 ?_; intro w2 g2 hm2; clear hm1)
      | (refine wpList_store_o 0 hm2 rfl rfl rfl rfl rfl (aggB _ len_new) (size_BB _ _ len_new len_zeros) (B_one _) ?_; intro w3 hm3; simp only [List.set] at hm3; clear hm2)
      | (refine wpList_load_all rfl rfl rfl (hm3.row 0 rfl) (aggB _ len_new) ?_)
      | (go_at_call 21; have _t := hm3; refine (put_any new 2 _ len_new vl_new.bytes (by omega)).mono ?_; rintro e w4 ⟨rfl, hb4⟩; rw [PO.out, P1.out]; have hm4 := hm3.call hb4; clear hm3)
      | (refine wpList_alloc_o hm4 rfl rfl zero23 ?_; intro w5 g5 hm5; clear hm4)
      | (refine wpList_store_o 0 hm5 rfl rfl rfl rfl rfl (aggB _ vl_O2.len) (size_BB _ _ vl_O2.len len_zeros) (B_one _) ?_; intro w6 hm6; simp only [List.set] at hm6; clear hm5)
      | (refine wpList_load_all rfl rfl rfl (hm6.row 0 rfl) (aggB _ vl_O2.len) ?_)
      | (go_at_call 23; have _t := hm6; refine (take_any O2 1 _ vl_O2.len).mono ?_; rintro e w7 ⟨rfl, hb7⟩; rw [PQ.out, P2.out, P6.out]; have hm7 := hm6.call hb7; clear hm6)
      | (refine wpList_alloc_o hm7 rfl rfl zero23 ?_; intro w8 g8 hm8; clear hm7)
      | (refine wpList_store_o 0 hm8 rfl rfl rfl rfl rfl (aggB _ len_Q2) (size_BB _ _ len_Q2 len_zeros) (B_one _) ?_; intro w9 hm9; simp only [List.set] at hm9; clear hm8)
      | (refine wpList_load_all rfl rfl rfl (hm9.row 1 rfl) (aggB _ vl_O2.len) ?_)
      | (go_at_call 23; have _t := hm9; refine (take_any O2 256 _ vl_O2.len).mono ?_; rintro e w10 ⟨rfl, hb10⟩; rw [PR.out, PT.out, P3.out]; have hm10 := hm9.call hb10; clear hm9)
      | (refine wpList_alloc_o hm10 rfl rfl zero23 ?_; intro w11 g11 hm11; clear hm10)
      | (refine wpList_store_o 0 hm11 rfl rfl rfl rfl rfl (aggB _ vl_O2.len) (size_BB _ _ vl_O2.len len_zeros) (B_one _) ?_; intro w12 hm12; simp only [List.set] at hm12; clear hm11)
      | (refine wpList_alloc_o hm12 rfl rfl zero23 ?_; intro w13 g13 hm13; clear hm12)
      | (refine wpList_load_all rfl rfl rfl (hm13.row 0 rfl) (aggB _ len_zeros) ?_)
      | (go_at_call 21; have _t := hm13; refine (put_any zeros 7 _ len_zeros bytes_zeros (by omega)).mono ?_; rintro e w14 ⟨rfl, hb14⟩; rw [P5.out, P4.out]; have hm14 := hm13.call hb14; clear hm13)
      | (refine wpList_alloc_o hm14 rfl rfl zero23 ?_; intro w15 g15 hm15; clear hm14)
      | (refine wpList_store_o 0 hm15 rfl rfl rfl rfl rfl (aggB _ len_zeros) rfl (B_one _) ?_; intro w16 hm16; simp only [List.set] at hm16; clear hm15))
  apply wp_region_lit
  refine wpList_build4_o 2 2 0 1 hm16 rfl rfl rfl rfl rfl rfl ?_; intro w17 g17 hm17; clear hm16
  simp only [Act.put, List.setIfInBounds_toArray, List.set_cons_zero, List.set_cons_succ]
  refine wpList_do rfl (fun K hK => ?_)
  go_simp
  refine (forth_any _ [2, 2, 0, 1] _ (In.row (hm17.row 0 rfl) 4) (byt4 _ rfl) (by simp)).mono ?_
  rintro e w18 ⟨⟨r18, rfl, ho18⟩, hb18⟩
  have hm18 := hm17.callSl hb18 (owns_len ho18 (len_forth _)); clear hm17
  refine hK _ _ ?_; clear hK K
  refine wpList_run rfl (exec_tostr_src rfl Try.underlying24 Try.underlying5 Try.underlying9 rfl (Src.of_owned (hm18.get 0 rfl))) ?_
  simp only [Act.put, List.setIfInBounds_toArray, List.set_cons_zero, List.set_cons_succ]
  refine wpList_run rfl (exec_eqlstr rfl rfl rfl factE1) ?_
  simp only [Act.put, List.setIfInBounds_toArray, List.set_cons_zero, List.set_cons_succ]
  refine wpList_val rfl (by go_simp; rfl) ?_
  simp only [Act.put, List.setIfInBounds_toArray, List.set_cons_zero, List.set_cons_succ]
  refine wpList_build4_o 2 0 1 2 hm18 rfl rfl rfl rfl rfl rfl ?_; intro w19 g19 hm19; clear hm18
  simp only [Act.put, List.setIfInBounds_toArray, List.set_cons_zero, List.set_cons_succ]
  refine wpList_do rfl (fun K hK => ?_)
  go_simp
  refine (back_any _ [2, 0, 1, 2] _ (In.row (hm19.row 0 rfl) 4) (byt4 _ rfl) (by simp)).mono ?_
  rintro e w20 ⟨⟨r20, rfl, ho20⟩, hb20⟩
  have hm20 := hm19.callSl hb20 (owns_len ho20 (len_back _)); clear hm19
  refine hK _ _ ?_; clear hK K
  refine wpList_run rfl (exec_tostr_src rfl Try.underlying24 Try.underlying5 Try.underlying9 rfl (Src.of_owned (hm20.get 0 rfl))) ?_
  simp only [Act.put, List.setIfInBounds_toArray, List.set_cons_zero, List.set_cons_succ]
  refine wpList_run rfl (exec_eqlstr rfl rfl rfl factE2) ?_
  simp only [Act.put, List.setIfInBounds_toArray, List.set_cons_zero, List.set_cons_succ]
  refine wpList_val rfl (by go_simp; rfl) ?_
  simp only [Act.put, List.setIfInBounds_toArray, List.set_cons_zero, List.set_cons_succ]
  refine wpList_val rfl (by go_simp; rfl) ?_
  simp only [Act.put, List.setIfInBounds_toArray, List.set_cons_zero, List.set_cons_succ]
  refine wpList_val rfl (by go_simp; rfl) ?_
  simp only [Act.put, List.setIfInBounds_toArray, List.set_cons_zero, List.set_cons_succ]
  refine wpList_val rfl (by go_simp; rfl) ?_
  simp only [Act.put, List.setIfInBounds_toArray, List.set_cons_zero, List.set_cons_succ]
  refine wpList_val rfl (by go_simp; rfl) ?_
  simp only [Act.put, List.setIfInBounds_toArray, List.set_cons_zero, List.set_cons_succ]
  refine wpList_val rfl (by go_simp; rfl) ?_
  simp only [Act.put, List.setIfInBounds_toArray, List.set_cons_zero, List.set_cons_succ]
  refine wpList_val rfl (by go_simp; rfl) ?_
  simp only [Act.put, List.setIfInBounds_toArray, List.set_cons_zero, List.set_cons_succ]
  refine wpList_run rfl (exec_loadcell' rfl rfl (hm20.row 6 rfl) one5 cellO0) ?_
  simp only [Act.put, List.setIfInBounds_toArray, List.set_cons_zero, List.set_cons_succ]
  refine wpList_val rfl (by go_simp; rfl) ?_
  simp only [Act.put, List.setIfInBounds_toArray, List.set_cons_zero, List.set_cons_succ]
  refine wpList_val rfl (by go_simp; rfl) ?_
  simp only [Act.put, List.setIfInBounds_toArray, List.set_cons_zero, List.set_cons_succ]
  refine wpList_val rfl (by go_simp; rfl) ?_
  simp only [Act.put, List.setIfInBounds_toArray, List.set_cons_zero, List.set_cons_succ]
  refine wpList_val rfl (by go_simp; rfl) ?_
  simp only [Act.put, List.setIfInBounds_toArray, List.set_cons_zero, List.set_cons_succ]
  refine wpList_run rfl (exec_loadcell' rfl rfl (hm20.row 6 rfl) one5 cellO1) ?_
  simp only [Act.put, List.setIfInBounds_toArray, List.set_cons_zero, List.set_cons_succ]
  refine wpList_val rfl (by go_simp; rfl) ?_
  simp only [Act.put, List.setIfInBounds_toArray, List.set_cons_zero, List.set_cons_succ]
  refine wpList_val rfl (by go_simp; rfl) ?_
  simp only [Act.put, List.setIfInBounds_toArray, List.set_cons_zero, List.set_cons_succ]
  refine wpList_val rfl (by go_simp; rfl) ?_
  simp only [Act.put, List.setIfInBounds_toArray, List.set_cons_zero, List.set_cons_succ]
  refine wpList_val rfl (by go_simp; rfl) ?_
  simp only [Act.put, List.setIfInBounds_toArray, List.set_cons_zero, List.set_cons_succ]
  refine wpList_run rfl (exec_loadcell' rfl rfl (hm20.row 6 rfl) one5 cellO2) ?_
  simp only [Act.put, List.setIfInBounds_toArray, List.set_cons_zero, List.set_cons_succ]
  refine wpList_val rfl (by go_simp; rfl) ?_
  simp only [Act.put, List.setIfInBounds_toArray, List.set_cons_zero, List.set_cons_succ]
  refine wpList_val rfl (by go_simp; rfl) ?_
  simp only [Act.put, List.setIfInBounds_toArray, List.set_cons_zero, List.set_cons_succ]
  refine wpList_val rfl (by go_simp; rfl) ?_
  simp only [Act.put, List.setIfInBounds_toArray, List.set_cons_zero, List.set_cons_succ]
  refine wpList_val rfl (by go_simp; rfl) ?_
  simp only [Act.put, List.setIfInBounds_toArray, List.set_cons_zero, List.set_cons_succ]
  refine wpList_run rfl (exec_loadcell' rfl rfl (hm20.row 6 rfl) one5 cellO3) ?_
  simp only [Act.put, List.setIfInBounds_toArray, List.set_cons_zero, List.set_cons_succ]
  refine wpList_val rfl (by go_simp; rfl) ?_
  simp only [Act.put, List.setIfInBounds_toArray, List.set_cons_zero, List.set_cons_succ]
  refine wpList_val rfl (by go_simp; rfl) ?_
  simp only [Act.put, List.setIfInBounds_toArray, List.set_cons_zero, List.set_cons_succ]
  refine wpList_val rfl (by go_simp; rfl) ?_
  simp only [Act.put, List.setIfInBounds_toArray, List.set_cons_zero, List.set_cons_succ]
  refine wpList_val rfl (by go_simp; rfl) ?_
  simp only [Act.put, List.setIfInBounds_toArray, List.set_cons_zero, List.set_cons_succ]
  refine wpList_val rfl (by go_simp; rfl) ?_
  simp only [Act.put, List.setIfInBounds_toArray, List.set_cons_zero, List.set_cons_succ]
  refine wpList_val rfl (by go_simp; rfl) ?_
  simp only [Act.put, List.setIfInBounds_toArray, List.set_cons_zero, List.set_cons_succ]
  refine wpList_val rfl (by go_simp; rfl) ?_
  simp only [Act.put, List.setIfInBounds_toArray, List.set_cons_zero, List.set_cons_succ]
  refine wpList_val rfl (by go_simp; rfl) ?_
  simp only [Act.put, List.setIfInBounds_toArray, List.set_cons_zero, List.set_cons_succ]
  refine wpList_val rfl (by go_simp; rfl) ?_
  simp only [Act.put, List.setIfInBounds_toArray, List.set_cons_zero, List.set_cons_succ]
  refine wpList_val rfl (by go_simp; rfl) ?_
  simp only [Act.put, List.setIfInBounds_toArray, List.set_cons_zero, List.set_cons_succ]
  refine wpList_val rfl (by go_simp; rfl) ?_
  simp only [Act.put, List.setIfInBounds_toArray, List.set_cons_zero, List.set_cons_succ]
  refine wpList_run rfl (exec_loadcell' rfl rfl (hm20.row 5 rfl) one5 cellQ0) ?_
  simp only [Act.put, List.setIfInBounds_toArray, List.set_cons_zero, List.set_cons_succ]
  refine wpList_val rfl (by go_simp; rfl) ?_
  simp only [Act.put, List.setIfInBounds_toArray, List.set_cons_zero, List.set_cons_succ]
  refine wpList_val rfl (by go_simp; rfl) ?_
  simp only [Act.put, List.setIfInBounds_toArray, List.set_cons_zero, List.set_cons_succ]
  refine wpList_val rfl (by go_simp; rfl) ?_
  simp only [Act.put, List.setIfInBounds_toArray, List.set_cons_zero, List.set_cons_succ]
  refine wpList_val rfl (by go_simp; rfl) ?_
  simp only [Act.put, List.setIfInBounds_toArray, List.set_cons_zero, List.set_cons_succ]
  refine wpList_run rfl (exec_loadcell' rfl rfl (hm20.row 5 rfl) one5 cellQ1) ?_
  simp only [Act.put, List.setIfInBounds_toArray, List.set_cons_zero, List.set_cons_succ]
  refine wpList_val rfl (by go_simp; rfl) ?_
  simp only [Act.put, List.setIfInBounds_toArray, List.set_cons_zero, List.set_cons_succ]
  refine wpList_val rfl (by go_simp; rfl) ?_
  simp only [Act.put, List.setIfInBounds_toArray, List.set_cons_zero, List.set_cons_succ]
  refine wpList_val rfl (by go_simp; rfl) ?_
  simp only [Act.put, List.setIfInBounds_toArray, List.set_cons_zero, List.set_cons_succ]
  refine wpList_val rfl (by go_simp; rfl) ?_
  simp only [Act.put, List.setIfInBounds_toArray, List.set_cons_zero, List.set_cons_succ]
  refine wpList_val rfl (by go_simp; rfl) ?_
  simp only [Act.put, List.setIfInBounds_toArray, List.set_cons_zero, List.set_cons_succ]
  refine wpList_val rfl (by go_simp; rfl) ?_
  simp only [Act.put, List.setIfInBounds_toArray, List.set_cons_zero, List.set_cons_succ]
  refine wpList_val rfl (by go_simp; rfl) ?_
  simp only [Act.put, List.setIfInBounds_toArray, List.set_cons_zero, List.set_cons_succ]
  refine wpList_val rfl (by go_simp; rfl) ?_
  simp only [Act.put, List.setIfInBounds_toArray, List.set_cons_zero, List.set_cons_succ]
  refine wpList_val rfl (by go_simp; rfl) ?_
  simp only [Act.put, List.setIfInBounds_toArray, List.set_cons_zero, List.set_cons_succ]
  refine wpList_val rfl (by go_simp; rfl) ?_
  simp only [Act.put, List.setIfInBounds_toArray, List.set_cons_zero, List.set_cons_succ]
  refine wpList_val rfl (by go_simp; rfl) ?_
  simp only [Act.put, List.setIfInBounds_toArray, List.set_cons_zero, List.set_cons_succ]
  refine wpList_load_all rfl rfl rfl (hm20.row 2 rfl) (aggB _ len_zeros) ?_
  simp only [Act.put, List.setIfInBounds_toArray, List.set_cons_zero, List.set_cons_succ]
  refine wpList_load_all rfl rfl rfl (hm20.row 3 rfl) (aggB _ len_zeros) ?_
  simp only [Act.put, List.setIfInBounds_toArray, List.set_cons_zero, List.set_cons_succ]
  refine wpList_run rfl (exec_eql23 rfl rfl rfl len_zeros len_zeros (beq_self_eq_true _)) ?_
  simp only [Act.put, List.setIfInBounds_toArray, List.set_cons_zero, List.set_cons_succ]
  refine wpList_val rfl (by go_simp; rfl) ?_
  simp only [Act.put, List.setIfInBounds_toArray, List.set_cons_zero, List.set_cons_succ]
  refine wpList_val rfl (by go_simp; rfl) ?_
  simp only [Act.put, List.setIfInBounds_toArray, List.set_cons_zero, List.set_cons_succ]
  refine wpList_load_all rfl rfl rfl (hm20.row 6 rfl) (aggB _ vl_O2.len) ?_
  simp only [Act.put, List.setIfInBounds_toArray, List.set_cons_zero, List.set_cons_succ]
  refine wpList_do rfl (fun K hK => ?_)
  go_simp
  refine (valid_any O2 _ vl_O2.len vl_O2.bytes).mono ?_
  rintro e w21 ⟨rfl, hb21⟩
  rw [PV.out]
  have hm21 := hm20.call hb21; clear hm20
  refine hK _ _ ?_; clear hK K
  refine wpList_val rfl (by go_simp; rfl) ?_
  simp only [Act.put, List.setIfInBounds_toArray, List.set_cons_zero, List.set_cons_succ]
  refine wpList_val rfl (by go_simp; rfl) ?_
  simp only [Act.put, List.setIfInBounds_toArray, List.set_cons_zero, List.set_cons_succ]
  refine wpList_load_all rfl rfl rfl (hm21.row 3 rfl) (aggB _ len_zeros) ?_
  simp only [Act.put, List.setIfInBounds_toArray, List.set_cons_zero, List.set_cons_succ]
  refine wpList_do rfl (fun K hK => ?_)
  go_simp
  refine (valid_any zeros _ len_zeros bytes_zeros).mono ?_
  rintro e w22 ⟨rfl, hb22⟩
  rw [PN.out]
  have hm22 := hm21.call hb22; clear hm21
  refine hK _ _ ?_; clear hK K
  refine wpList_val rfl (by go_simp; rfl) ?_
  simp only [Act.put, List.setIfInBounds_toArray, List.set_cons_zero, List.set_cons_succ]
  refine wpList_val rfl (by go_simp; rfl) ?_
  simp only [Act.put, List.setIfInBounds_toArray, List.set_cons_zero, List.set_cons_succ]
  refine wpList_val rfl (by go_simp; rfl) ?_
  simp only [Act.put, List.setIfInBounds_toArray, List.set_cons_zero, List.set_cons_succ]
  refine wpList_val rfl (by go_simp; rfl) ?_
  simp only [Act.put, List.setIfInBounds_toArray, List.set_cons_zero, List.set_cons_succ]
  refine wpList_run rfl (exec_loadcell' rfl rfl (hm22.row 7 rfl) one5 cellN) ?_
  simp only [Act.put, List.setIfInBounds_toArray, List.set_cons_zero, List.set_cons_succ]
  refine wpList_val rfl (by go_simp; rfl) ?_
  simp only [Act.put, List.setIfInBounds_toArray, List.set_cons_zero, List.set_cons_succ]
  refine wpList_val rfl (by go_simp; rfl) ?_
  simp only [Act.put, List.setIfInBounds_toArray, List.set_cons_zero, List.set_cons_succ]
  refine wpList_val rfl (by go_simp; rfl) ?_
  simp only [Act.put, List.setIfInBounds_toArray, List.set_cons_zero, List.set_cons_succ]
  refine wpList_do rfl (fun K hK => ?_)
  go_simp
  refine (forth_any _ [] _ (In.nil _ _) (byt4 _ rfl) (by simp)).mono ?_
  rintro e w23 ⟨⟨r23, rfl, ho23⟩, hb23⟩
  obtain ⟨a23, c23, rfl⟩ := owns_shape ho23
  have hm23 := hm22.call hb23; clear hm22
  refine hK _ _ ?_; clear hK K
  refine wpList_val rfl (by go_simp; rfl) ?_
  simp only [Act.put, List.setIfInBounds_toArray, List.set_cons_zero, List.set_cons_succ]
  refine wpList_val rfl (by go_simp; rfl) ?_
  simp only [Act.put, List.setIfInBounds_toArray, List.set_cons_zero, List.set_cons_succ]
  refine wpList_val rfl (by go_simp; rfl) ?_
  simp only [Act.put, List.setIfInBounds_toArray, List.set_cons_zero, List.set_cons_succ]
  refine wpList_val rfl (by go_simp; rfl) ?_
  simp only [Act.put, List.setIfInBounds_toArray, List.set_cons_zero]
  refine wpList_nil ?_
  go_simp
  go_wp2
  go_ret
  exact ⟨rfl, hm23.below⟩
end Go.Proofs.Ytaccjnekonmkoaa
