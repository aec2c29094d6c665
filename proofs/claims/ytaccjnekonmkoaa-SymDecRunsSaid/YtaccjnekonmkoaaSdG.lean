/-
  The walk of symdec.step, at a symbol that is no digit nor the end; and of symdec.Step.
-/
import Derived.Test.YtaccjnekonmkoaaSdF
namespace Go.Proofs.Ytaccjnekonmkoaa
open Go Go.RowKit

set_option maxRecDepth 100000 in
set_option maxHeartbeats 2000000 in
theorem step_full (b : DS) (s : Int) (w : World) (hl : b.l.length = 256) (s0 : ¬ s = 0) (s1 : ¬ s = 1) (s2 : ¬ s = 257) (hf : b.run = b.left) : Calls Try.prog 71 #[.agg (V b), .int .i64 s] w (StPost w b [] false) := by
  have d0 : (s == 0) = false := by simpa using s0
  have d1 : (s == 1) = false := by simpa using s1
  have d2 : (s == 257) = false := by simpa using s2
  have d3 : (b.run == b.left) = true := by simpa using hf
  clear hf
  go_enter Try.func71, Try.ntmps71
  have hm := Own.nil w
  go_wp2_with (first
    | (refine wpList_box_o hm rfl rfl rfl ?_; intro w1 g hm1; clear hm)
    | (refine wpList_alloc_o hm1 rfl rfl zero70 ?_; intro w2 g2 hm2; clear hm1)
    | (refine wpList_run rfl (exec_loadcell' (off := 257) rfl rfl (hm2.row 1 rfl) one3 (getV2 hl)) ?_)
    | (refine wpList_run rfl (exec_loadcell' (off := 256) rfl rfl (hm2.row 1 rfl) one3 (getV1 hl)) ?_)
    | (refine wpList_load_all rfl rfl rfl (hm2.row 1 rfl) (aggV hl) ?_)
    | (refine wpList_store_o 0 hm2 rfl rfl rfl rfl rfl (aggV hl) (size_VV hl len_DS0) (V_one _) ?_; intro w4 hm4; simp only [List.set] at hm4; clear hm2))
  refine bodyPost_ret (results_agg3 rfl rfl (hm4.row 0 rfl) (aggV hl)) rfl ?_
  exact ⟨⟨_, rfl, .inl ⟨rfl, rfl⟩⟩, hm4.below⟩
theorem len_rep {b : DS} (h : 0 ≤ b.run) : (b.rep.length : Int) = b.run := by rw [DS.rep, List.length_replicate]; omega
set_option maxRecDepth 100000 in
set_option maxHeartbeats 4000000 in
theorem step_more (b : DS) (s : Int) (w : World) (hl : b.l.length = 256) (s0 : ¬ s = 0) (s1 : ¬ s = 1) (s2 : ¬ s = 257) (hf : ¬ b.run = b.left) (h0 : 0 ≤ b.run) (h1 : b.run ≤ 65536) (h2 : 0 ≤ b.left) (h3 : b.left ≤ 65536) (hs : 0 ≤ s ∧ s ≤ 1000) : Calls Try.prog 71 #[.agg (V b), .int .i64 s] w (StPost w ⟨takeL b.l (s - 1), b.left - (b.run + 1), 0, 0, false⟩ (b.rep ++ [takeC b.l (s - 1)]) true) := by
  have d0 : (s == 0) = false := by simpa using s0
  have d1 : (s == 1) = false := by simpa using s1
  have d2 : (s == 257) = false := by simpa using s2
  have d3 : (b.run == b.left) = false := by simpa using hf
  have CR : Hid (∀ w, Calls Try.prog 74 #[.agg (V b)] w (BytesPost w b.rep)) := fun w => run_any b w hl h0 h1
  have CT : Hid (∀ w, Calls Try.prog 23 #[.agg (B b.l), .int .i64 (s - 1)] w fun e w' => (e = .returned (.tuple #[.agg (B (takeL b.l (s - 1))), .int .u8 (takeC b.l (s - 1)), .bool (takeB (s - 1))])) ∧ Below w.heap.size w w') := fun w => take_any b.l (s - 1) w hl
  have hm1 : (takeL b.l (s - 1)).length = 256 := len_takeL _ _ hl
  have hw : IntKind.i64.wrap (s - 1) = s - 1 := IntWalk.i64_in _ (by omega)
  have hR := len_rep h0
  obtain ⟨i5, hE⟩ := el24
  have HE := Lib.hid hE
  clear hE hf hs
  generalize b.rep = R at *
  generalize takeL b.l (s - 1) = M at *
  generalize takeC b.l (s - 1) = c at *
  generalize takeB (s - 1) = f at *
  have hlt : R.length ≤ 65536 := by omega
  have HR := Lib.hid hR
  have hw2 : IntKind.i64.wrap (b.left - ((R.length : Int) + 1)) = b.left - ((R.length : Int) + 1) := IntWalk.i64_in _ (by omega)
  clear hR
  go_enter Try.func71, Try.ntmps71
  have hm := Own.nil w
  go_wp2_with (first
    | (refine wpList_box_o hm rfl rfl rfl ?_; intro w1 g hm1'; clear hm)
    | (refine wpList_alloc_o hm1' rfl rfl zero70 ?_; intro w2 g2 hm2; clear hm1')
    | (refine wpList_run rfl (exec_loadcell' (off := 257) rfl rfl (hm2.row 1 rfl) one3 (getV2 hl)) ?_)
    | (refine wpList_run rfl (exec_loadcell' (off := 256) rfl rfl (hm2.row 1 rfl) one3 (getV1 hl)) ?_)
    | (refine wpList_load_part rfl rfl rfl (hm2.row 1 rfl) (aggB _ hl) (extract_V hl) (fitV hl) ?_)
    | (go_at_call 23; have _t := hm2; refine (CT.out _).mono ?_; rintro e w3 ⟨rfl, hb3⟩; have hm3 := hm2.call hb3; clear hm2)
    | (refine wpList_alloc_o hm3 rfl rfl zero23 ?_; intro w4 g4 hm4; clear hm3)
    | (refine wpList_store_o 0 hm4 rfl rfl rfl rfl rfl (aggB _ hm1) (size_BB _ _ hm1 len_zeros) (B_one _) ?_; intro w5 hm5; simp only [List.set] at hm5; clear hm4)
    | (refine wpList_load_all rfl rfl rfl (hm5.row 2 rfl) (aggV hl) ?_)
    | (go_at_call 74; have _t := hm5; refine (CR.out _).mono ?_; rintro e w6 ⟨⟨gT, cells, rfl, hrT, hgT, htT⟩, hb6⟩; have hm6 := hm5.callRow hb6 hrT hgT; clear hm5)
    | (refine wpList_build1_o (v := .int .u8 c) hm6 rfl rfl HE.out rfl rfl ?_; intro w7 g7 hm7; clear hm6)
    | (refine wpList_grow_o hm7 rfl rfl HE.out rfl (length_vs .u8 R) (row_hold (hm7.row 1 rfl) htT) rfl (news := [.int .u8 c]) rfl (fun j u hj => by cases j with | zero => simp at hj; subst hj; exact cell_row (hm7.row 0 rfl) 0 rfl | succ j => simp at hj) (by omega) (by omega) (by omega) ?_; intro ad8 c8 w8 hm8; clear hm7)
    | (refine wpList_load_all rfl rfl rfl (hm8.row 2 rfl) (aggB _ hm1) ?_)
    | (refine wpList_run rfl (exec_loadcell' (off := 256) rfl rfl (hm8.row 4 rfl) one3 (getV1 hl)) ?_)
    | (refine wpList_run rfl (exec_build70_1 rfl rfl rfl hm1) ?_)
    | (refine wpList_store_o 3 hm8 rfl rfl rfl rfl rfl (aggV (b := ⟨M, b.left - ((R.length : Int) + 1), 0, 0, false⟩) hm1) (size_VV (b := ⟨M, b.left - ((R.length : Int) + 1), 0, 0, false⟩) hm1 len_DS0) (V_one _) ?_; intro w9 hm9; simp only [List.set] at hm9; clear hm8))
  refine bodyPost_ret (results_agg3 rfl rfl (hm9.row 3 rfl) (aggV (b := ⟨M, b.left - ((R.length : Int) + 1), 0, 0, false⟩) hm1)) rfl ?_
  rw [← HR.out]
  have e : vs .u8 R ++ [Value.int .u8 c] = vs .u8 (R ++ [c]) := by simp [vs]
  have hs := SrcF.of_owned (hm9.get 0 rfl)
  rw [e] at hs
  exact ⟨⟨_, rfl, hs⟩, hm9.below⟩
theorem step_any (b : DS) (s : Int) (w : World) (hl : b.l.length = 256) (h0 : 0 ≤ b.run) (h1 : b.run ≤ b.left) (h3 : b.left ≤ 65536) (hd0 : 0 ≤ b.dig) (hd1 : b.dig ≤ 16) (hs : 0 ≤ s ∧ s ≤ 257) : Calls Try.prog 71 #[.agg (V b), .int .i64 s] w (StPost w (dstep b s).1 (dstep b s).2.1 (dstep b s).2.2) := by
  by_cases s0 : s = 0
  · subst s0; exact step_0 b w hl hd0 (by omega)
  by_cases s1 : s = 1
  · subst s1; exact step_1 b w hl hd0 (by omega)
  rw [dstep, if_neg (fun h => h.elim s0 s1)]
  by_cases s2 : s = 257
  · subst s2; rw [if_pos rfl]; exact step_eob b w hl h0 (by omega)
  rw [if_neg s2]
  by_cases hf : b.run = b.left
  · rw [if_pos hf]; exact step_full b s w hl s0 s1 s2 hf
  · rw [if_neg hf]; exact step_more b s w hl s0 s1 s2 hf h0 (by omega) (by omega) h3 (by omega)
/-- What Step makes of a symbol: the state, the bytes, whether the end was read, an error's number. -/
def dStp (b : DS) (s : Int) : DS × List Int × Bool × Int :=
  if dOk b = true ∧ b.fin = false ∧ 0 ≤ s ∧ s ≤ 257 then (if (dstep b s).2.2 = true then ((dstep b s).1, (dstep b s).2.1, (dstep b s).1.fin, 0) else (b, [], false, 160)) else (b, [], false, 2)
def DPost (w : World) (o : DS × List Int × Bool × Int) (x : Ending) (w' : World) : Prop := (∃ v, x = .returned (.tuple #[.agg (V o.1), v, .bool o.2.2.1, .int .i64 o.2.2.2]) ∧ SrcF w.heap.size w' v (vs .u8 o.2.1)) ∧ Below w.heap.size w w'
theorem dOk_facts {b : DS} (h : dOk b = true) : Vl b.l ∨ ¬ b.l.length = 256 ∨ ¬ Bytes b.l := by
  by_cases hl : b.l.length = 256
  · by_cases hb : Bytes b.l
    · rw [dOk, Bool.and_eq_true] at h
      exact .inl ((vl_iff hl hb).1 h.1)
    · exact .inr (.inr hb)
  · exact .inr (.inl hl)
theorem dOk_nums {b : DS} (h : dOk b = true) : 0 ≤ b.left ∧ b.left ≤ 65536 ∧ 0 ≤ b.run ∧ b.run ≤ b.left ∧ 0 ≤ b.dig ∧ b.dig ≤ 16 ∧ ((dg b.run.toNat).length : Int) = b.dig := by
  rw [dOk, Bool.and_eq_true, Bool.and_eq_true] at h
  exact of_decide_eq_true h.2.1
theorem len_dstep (b : DS) (s : Int) (hl : b.l.length = 256) : (dstep b s).1.l.length = 256 := by
  rw [dstep]
  split
  · exact hl
  · split
    · exact hl
    · split
      · exact hl
      · exact len_takeL _ _ hl
set_option maxRecDepth 100000 in
set_option maxHeartbeats 1000000 in
theorem dst_v (b : DS) (s : Int) (w : World) (hl : b.l.length = 256) (r : Bool) (CV : Hid (∀ w, Calls Try.prog 60 #[.agg (V b)] w fun e w' => (e = .returned (.bool r)) ∧ Below w.heap.size w w')) (h : r = false) : Calls Try.prog 58 #[.agg (V b), .int .i64 s] w (DPost w (b, [], false, 2)) := by
  subst h
  go_enter Try.func58, Try.ntmps58
  have hm := Own.nil w
  go_wp2_with (first
    | (refine wpList_box_o hm rfl rfl rfl ?_; intro w1 g hm1; clear hm)
    | (refine wpList_alloc_o hm1 rfl rfl zero70 ?_; intro w2 g2 hm2; clear hm1)
    | (refine wpList_load_all rfl rfl rfl (hm2.row 1 rfl) (aggV hl) ?_)
    | (go_at_call 60; have _t := hm2; refine (CV.out _).mono ?_; rintro e w3 ⟨rfl, hb3⟩; have hm3 := hm2.call hb3; clear hm2)
    | (refine wpList_run rfl (exec_loadcell' (off := 259) rfl rfl (hm3.row 1 rfl) one4 (getV4 hl)) ?_)
    | (refine wpList_load_all rfl rfl rfl (hm3.row 1 rfl) (aggV hl) ?_)
    | (refine wpList_store_o 0 hm3 rfl rfl rfl rfl rfl (aggV hl) (size_VV hl len_DS0) (V_one _) ?_; intro w4 hm4; simp only [List.set] at hm4; clear hm3))
  refine bodyPost_ret (results_agg4 rfl rfl (hm4.row 0 rfl) (aggV hl)) rfl ?_
  exact ⟨⟨_, rfl, .inl ⟨rfl, rfl⟩⟩, hm4.below⟩
set_option maxRecDepth 100000 in
set_option maxHeartbeats 1000000 in
theorem dst_f (b : DS) (s : Int) (w : World) (hl : b.l.length = 256) (r : Bool) (CV : Hid (∀ w, Calls Try.prog 60 #[.agg (V b)] w fun e w' => (e = .returned (.bool r)) ∧ Below w.heap.size w w')) (h : r = true) (h2 : b.fin = true) : Calls Try.prog 58 #[.agg (V b), .int .i64 s] w (DPost w (b, [], false, 2)) := by
  subst h
  go_enter Try.func58, Try.ntmps58
  have hm := Own.nil w
  go_wp2_with (first
    | (refine wpList_box_o hm rfl rfl rfl ?_; intro w1 g hm1; clear hm)
    | (refine wpList_alloc_o hm1 rfl rfl zero70 ?_; intro w2 g2 hm2; clear hm1)
    | (refine wpList_load_all rfl rfl rfl (hm2.row 1 rfl) (aggV hl) ?_)
    | (go_at_call 60; have _t := hm2; refine (CV.out _).mono ?_; rintro e w3 ⟨rfl, hb3⟩; have hm3 := hm2.call hb3; clear hm2)
    | (refine wpList_run rfl (exec_loadcell' (off := 259) rfl rfl (hm3.row 1 rfl) one4 (getV4 hl)) ?_)
    | (refine wpList_load_all rfl rfl rfl (hm3.row 1 rfl) (aggV hl) ?_)
    | (refine wpList_store_o 0 hm3 rfl rfl rfl rfl rfl (aggV hl) (size_VV hl len_DS0) (V_one _) ?_; intro w4 hm4; simp only [List.set] at hm4; clear hm3))
  refine bodyPost_ret (results_agg4 rfl rfl (hm4.row 0 rfl) (aggV hl)) rfl ?_
  exact ⟨⟨_, rfl, .inl ⟨rfl, rfl⟩⟩, hm4.below⟩
set_option maxRecDepth 100000 in
set_option maxHeartbeats 1000000 in
theorem dst_l (b : DS) (s : Int) (w : World) (hl : b.l.length = 256) (r : Bool) (CV : Hid (∀ w, Calls Try.prog 60 #[.agg (V b)] w fun e w' => (e = .returned (.bool r)) ∧ Below w.heap.size w w')) (h : r = true) (h2 : b.fin = false) (h3 : s < 0) : Calls Try.prog 58 #[.agg (V b), .int .i64 s] w (DPost w (b, [], false, 2)) := by
  subst h
  have q3 : decide (s < 0) = true := decide_eq_true h3
  go_enter Try.func58, Try.ntmps58
  have hm := Own.nil w
  go_wp2_with (first
    | (refine wpList_box_o hm rfl rfl rfl ?_; intro w1 g hm1; clear hm)
    | (refine wpList_alloc_o hm1 rfl rfl zero70 ?_; intro w2 g2 hm2; clear hm1)
    | (refine wpList_load_all rfl rfl rfl (hm2.row 1 rfl) (aggV hl) ?_)
    | (go_at_call 60; have _t := hm2; refine (CV.out _).mono ?_; rintro e w3 ⟨rfl, hb3⟩; have hm3 := hm2.call hb3; clear hm2)
    | (refine wpList_run rfl (exec_loadcell' (off := 259) rfl rfl (hm3.row 1 rfl) one4 (getV4 hl)) ?_)
    | (refine wpList_load_all rfl rfl rfl (hm3.row 1 rfl) (aggV hl) ?_)
    | (refine wpList_store_o 0 hm3 rfl rfl rfl rfl rfl (aggV hl) (size_VV hl len_DS0) (V_one _) ?_; intro w4 hm4; simp only [List.set] at hm4; clear hm3))
  refine bodyPost_ret (results_agg4 rfl rfl (hm4.row 0 rfl) (aggV hl)) rfl ?_
  exact ⟨⟨_, rfl, .inl ⟨rfl, rfl⟩⟩, hm4.below⟩
set_option maxRecDepth 100000 in
set_option maxHeartbeats 1000000 in
theorem dst_h (b : DS) (s : Int) (w : World) (hl : b.l.length = 256) (r : Bool) (CV : Hid (∀ w, Calls Try.prog 60 #[.agg (V b)] w fun e w' => (e = .returned (.bool r)) ∧ Below w.heap.size w w')) (h : r = true) (h2 : b.fin = false) (h3 : ¬ s < 0) (h4 : 257 < s) : Calls Try.prog 58 #[.agg (V b), .int .i64 s] w (DPost w (b, [], false, 2)) := by
  subst h
  have q3 : decide (s < 0) = false := decide_eq_false h3
  have q4 : decide (257 < s) = true := decide_eq_true h4
  go_enter Try.func58, Try.ntmps58
  have hm := Own.nil w
  go_wp2_with (first
    | (refine wpList_box_o hm rfl rfl rfl ?_; intro w1 g hm1; clear hm)
    | (refine wpList_alloc_o hm1 rfl rfl zero70 ?_; intro w2 g2 hm2; clear hm1)
    | (refine wpList_load_all rfl rfl rfl (hm2.row 1 rfl) (aggV hl) ?_)
    | (go_at_call 60; have _t := hm2; refine (CV.out _).mono ?_; rintro e w3 ⟨rfl, hb3⟩; have hm3 := hm2.call hb3; clear hm2)
    | (refine wpList_run rfl (exec_loadcell' (off := 259) rfl rfl (hm3.row 1 rfl) one4 (getV4 hl)) ?_)
    | (refine wpList_load_all rfl rfl rfl (hm3.row 1 rfl) (aggV hl) ?_)
    | (refine wpList_store_o 0 hm3 rfl rfl rfl rfl rfl (aggV hl) (size_VV hl len_DS0) (V_one _) ?_; intro w4 hm4; simp only [List.set] at hm4; clear hm3))
  refine bodyPost_ret (results_agg4 rfl rfl (hm4.row 0 rfl) (aggV hl)) rfl ?_
  exact ⟨⟨_, rfl, .inl ⟨rfl, rfl⟩⟩, hm4.below⟩
theorem wpList_store_x {P : Program} {ops : Array Oper} {rest : List Oper} {o : Oper} {a : Act} {w0 w : World} {Q : Exit → Act → World → Prop} {rs : List (Nat × Array Value)} {ss : List Sl} (i : Nat) (hm : Own w0 w rs ss) (hgd : Region.wanted o (yielded ops a.tmps) = true) {ty : TypeId} {x y : Operand} (ho : o.op = .store ty x y) {g : Nat} (hx : a.eval x = .pointer (some ⟨g, 0, none⟩)) {vs cs : Array Value} (hy : a.eval y = .agg vs)
    (hi : rs[i]? = some (g, cs)) (ht : AggTy P ty vs.size) (hs : vs.size = cs.size) (h1 : ∀ v ∈ vs, v.oneCell' = true)
    (h : Own w0 (w.setRow g vs) (rs.set i (g, vs)) ss → wpList P ops Q rest (a.put o.dst undef) (w.setRow g vs)) : wpList P ops Q (o :: rest) a w := by
  have hrun := exec_store (P := P) (off := 0) ho hx hy (hm.row i hi) ht rfl (by omega) h1
  rw [splice_full cs vs hs] at hrun
  exact wpList_skips hgd hrun (h (hm.setRow i vs hi))
set_option maxRecDepth 100000 in
set_option maxHeartbeats 2000000 in
theorem dst_bad (b : DS) (s : Int) (w : World) (hl : b.l.length = 256) (CV : Hid (∀ w, Calls Try.prog 60 #[.agg (V b)] w fun e w' => (e = .returned (.bool true)) ∧ Below w.heap.size w w')) (h2 : b.fin = false) (h3 : ¬ s < 0) (h4 : ¬ 257 < s) (o : DS) (t : List Int) (ho : o.l.length = 256) (CS : Hid (∀ w, Calls Try.prog 71 #[.agg (V b), .int .i64 s] w (StPost w o t false))) : Calls Try.prog 58 #[.agg (V b), .int .i64 s] w (DPost w (b, [], false, 160)) := by
  have q3 : decide (s < 0) = false := decide_eq_false h3
  have q4 : decide (257 < s) = false := decide_eq_false h4
  go_enter Try.func58, Try.ntmps58
  have hm := Own.nil w
  go_wp2_with (first
    | (refine wpList_box_o hm rfl rfl rfl ?_; intro w1 g hm1; clear hm)
    | (refine wpList_alloc_o hm1 rfl rfl zero70 ?_; intro w2 g2 hm2; clear hm1)
    | (refine wpList_load_all rfl rfl rfl (hm2.row 1 rfl) (aggV hl) ?_)
    | (go_at_call 60; have _t := hm2; refine (CV.out _).mono ?_; rintro e w3 ⟨rfl, hb3⟩; have hm3 := hm2.call hb3; clear hm2)
    | (refine wpList_run rfl (exec_loadcell' (off := 259) rfl rfl (hm3.row 1 rfl) one4 (getV4 hl)) ?_)
    | (refine wpList_load_all rfl rfl rfl (hm3.row 1 rfl) (aggV hl) ?_)
    | (go_at_call 71; have _t := hm3; refine (CS.out _).mono ?_; rintro e w4 ⟨⟨v4, rfl, hs4⟩, hb4⟩; have hm4 := hm3.call hb4; have HG := Lib.hid ((hm3.row 0 rfl).lt); have HS4 := Lib.hid hs4; have HW := Lib.hid hm3.below.size; clear hm3 hs4)
    | (have _t := HG; refine wpList_store_x 0 hm4 rfl rfl rfl rfl rfl (aggV ho) (size_VV ho len_DS0) (V_one _) ?_; intro hm5; simp only [List.set] at hm5; have HS5 := Lib.hid (HS4.out.setRow HG.out (V o)); generalize World.setRow _ _ (V o) = w5 at hm5 HS5 ⊢; clear hm4 HS4 HG)
    | (refine wpList_load_all rfl rfl rfl (hm5.row 1 rfl) (aggV hl) ?_)
    | (refine wpList_store_o 0 hm5 rfl rfl rfl rfl rfl (aggV hl) (size_VV hl ho) (V_one _) ?_; intro w6 hm6; simp only [List.set] at hm6; clear hm5))
  refine bodyPost_ret (results_agg4 rfl rfl (hm6.row 0 rfl) (aggV hl)) rfl ?_
  exact ⟨⟨_, rfl, .inl ⟨rfl, rfl⟩⟩, hm6.below⟩
set_option maxRecDepth 100000 in
set_option maxHeartbeats 2000000 in
theorem dst_good (b : DS) (s : Int) (w : World) (hl : b.l.length = 256) (CV : Hid (∀ w, Calls Try.prog 60 #[.agg (V b)] w fun e w' => (e = .returned (.bool true)) ∧ Below w.heap.size w w')) (h2 : b.fin = false) (h3 : ¬ s < 0) (h4 : ¬ 257 < s) (o : DS) (t : List Int) (ho : o.l.length = 256) (CS : Hid (∀ w, Calls Try.prog 71 #[.agg (V b), .int .i64 s] w (StPost w o t true))) : Calls Try.prog 58 #[.agg (V b), .int .i64 s] w (DPost w (o, t, o.fin, 0)) := by
  have q3 : decide (s < 0) = false := decide_eq_false h3
  have q4 : decide (257 < s) = false := decide_eq_false h4
  go_enter Try.func58, Try.ntmps58
  have hm := Own.nil w
  go_wp2_with (first
    | (refine wpList_box_o hm rfl rfl rfl ?_; intro w1 g hm1; clear hm)
    | (refine wpList_alloc_o hm1 rfl rfl zero70 ?_; intro w2 g2 hm2; clear hm1)
    | (refine wpList_load_all rfl rfl rfl (hm2.row 1 rfl) (aggV hl) ?_)
    | (go_at_call 60; have _t := hm2; refine (CV.out _).mono ?_; rintro e w3 ⟨rfl, hb3⟩; have hm3 := hm2.call hb3; clear hm2)
    | (refine wpList_run rfl (exec_loadcell' (off := 259) rfl rfl (hm3.row 1 rfl) one4 (getV4 hl)) ?_)
    | (refine wpList_load_all rfl rfl rfl (hm3.row 1 rfl) (aggV hl) ?_)
    | (go_at_call 71; have _t := hm3; refine (CS.out _).mono ?_; rintro e w4 ⟨⟨v4, rfl, hs4⟩, hb4⟩; have hm4 := hm3.call hb4; have HG := Lib.hid ((hm3.row 0 rfl).lt); have HS4 := Lib.hid hs4; have HW := Lib.hid hm3.below.size; have HGX := Lib.hid ((hm3.row 0 rfl).lt); clear hm3 hs4)
    | (have _t := HG; refine wpList_store_x 0 hm4 rfl rfl rfl rfl rfl (aggV ho) (size_VV ho len_DS0) (V_one _) ?_; intro hm5; simp only [List.set] at hm5; have HS5 := Lib.hid (HS4.out.setRow HG.out (V o)); generalize World.setRow _ _ (V o) = w5 at hm5 HS5 ⊢; clear hm4 HS4 HG)
    | (refine wpList_load_all rfl rfl rfl (hm5.row 0 rfl) (aggV ho) ?_)
    | (refine wpList_run rfl (exec_loadcell' (off := 259) rfl rfl (hm5.row 0 rfl) one4 (getV4 ho)) ?_)
    | (refine wpList_store_x 0 hm5 rfl rfl rfl rfl rfl (aggV ho) (size_VV ho ho) (V_one _) ?_; intro hm6; simp only [List.set] at hm6; have HS6 := Lib.hid (HS5.out.setRow HGX.out (V o)); generalize World.setRow _ _ (V o) = w6 at hm6 HS6 ⊢; clear hm5 HS5))
  refine bodyPost_ret (results_agg4 rfl rfl (hm6.row 0 rfl) (aggV ho)) rfl ?_
  exact ⟨⟨_, rfl, HS6.out.mono HW.out⟩, hm6.below⟩
theorem dstep_any (b : DS) (s : Int) (w : World) (hl : b.l.length = 256) (hb : Bytes b.l) : Calls Try.prog 58 #[.agg (V b), .int .i64 s] w (DPost w (dStp b s)) := by
  have RV := fun w => dvalid_any b w hl hb
  rw [dStp]
  cases hv : dOk b with
  | false =>
    rw [if_neg (fun h => by cases h.1)]
    exact dst_v b s w hl _ (Lib.hid (fun w => RV w)) hv
  | true =>
    have CV : Hid (∀ w, Calls Try.prog 60 #[.agg (V b)] w fun e w' => (e = .returned (.bool true)) ∧ Below w.heap.size w w') := Lib.hid (fun w => by have h := RV w; rwa [hv] at h)
    cases hf : b.fin with
    | true =>
      rw [if_neg (fun h => by cases h.2.1)]
      exact dst_f b s w hl _ CV rfl hf
    | false =>
      by_cases h3 : s < 0
      · rw [if_neg (by omega)]
        exact dst_l b s w hl _ CV rfl hf h3
      by_cases h4 : 257 < s
      · rw [if_neg (by omega)]
        exact dst_h b s w hl _ CV rfl hf h3 h4
      rw [if_pos ⟨rfl, rfl, by omega, by omega⟩]
      obtain ⟨a1, a2, a3, a4, a5, a6, _⟩ := dOk_nums hv
      have CS : ∀ w, Calls Try.prog 71 #[.agg (V b), .int .i64 s] w (StPost w (dstep b s).1 (dstep b s).2.1 (dstep b s).2.2) := fun w => step_any b s w hl a3 a4 a2 a5 a6 (by omega)
      have hlo := len_dstep b s hl
      cases hk : (dstep b s).2.2 with
      | true =>
        rw [if_pos rfl]
        exact dst_good b s w hl CV hf h3 h4 _ _ hlo (Lib.hid (fun w => by have h := CS w; rwa [hk] at h))
      | false =>
        rw [if_neg (by decide)]
        exact dst_bad b s w hl CV hf h3 h4 _ _ hlo (Lib.hid (fun w => by have h := CS w; rwa [hk] at h))
end Go.Proofs.Ytaccjnekonmkoaa
