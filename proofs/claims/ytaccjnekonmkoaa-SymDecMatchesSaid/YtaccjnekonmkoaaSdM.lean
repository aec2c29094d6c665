/-
  The walk of the law SymDecMatches (winepresslaw16): it returns true.
-/
import Derived.Test.YtaccjnekonmkoaaSdJ
import Derived.Test.YtaccjnekonmkoaaSdW
namespace Go.Proofs.Ytaccjnekonmkoaa
open Go Go.RowKit

theorem sdm_neqstr {o : Oper} {a : Act} {w : World} {t t' : TypeId} {x y : Operand} (ho : o.op = .binOp .neq t x y t') {p q : ByteArray} (hx : a.eval x = .string p) (hy : a.eval y = .string q) {b : Bool} (hb : (!(p.toList == q.toList)) = b) :
    (execOp a.eval o).run Try.prog w = .ok (.value (.bool b)) w := by
  subst hb
  unfold execOp
  simp only [ho, hx, hy, eqGuard_at_string, Sem.run_bind, Sem.run_pure, Result.andThen_ok]
  simp [binOp, Op.stringOp, Result.andThen]
theorem len_dStp (b : DS) (s : Int) (hl : b.l.length = 256) : (dStp b s).1.l.length = 256 := by
  rw [dStp]
  split
  · split
    · exact len_dstep b s hl
    · exact hl
  · exact hl
set_option maxRecDepth 100000 in
set_option maxHeartbeats 1000000 in
theorem sdm_we (b : DS) (s most : Int) (l : List Int) (v : Value) (w : World) (hl : b.l.length = 256) (hv : In .i64 w v l) (p1 : 3000 < b.left) (p1' : b.left ≤ 65536) : Calls Try.prog 16 #[.agg (V b), .int .i64 s, .int .i64 most, v] w fun e w' => e = .returned (.bool true) ∧ Below w.heap.size w w' := by
  obtain ⟨ad, cp, rfl, hc⟩ := hv
  clear hc
  have q1 : decide (3000 < b.left) = true := decide_eq_true p1
  have q2 : decide (b.left ≤ 65536) = true := decide_eq_true p1'
  go_enter Try.func16, Try.ntmps16
  have hm := Own.nil w
  go_wp2_with (first
    | (refine wpList_box_o hm rfl rfl rfl ?_; intro w1 g hm1; clear hm)
    | (refine wpList_run rfl (exec_loadcell' (off := 256) rfl rfl (hm1.row 0 rfl) one3 (getV1 hl)) ?_)
    | (go_at_call 57; have _t := hm1; refine (wakes16 _).mono ?_; rintro x w2 ⟨rfl, hb2⟩; have hm2 := hm1.call hb2; clear hm1))
  go_ret
  exact ⟨rfl, hm2.below⟩
set_option maxRecDepth 100000 in
set_option maxHeartbeats 1000000 in
theorem sdm_waf (b : DS) (s most : Int) (l : List Int) (v : Value) (w : World) (hl : b.l.length = 256) (hv : In .i64 w v l) (p1 : ¬ 3000 < b.left) (p2 : 3000 < most) (p2' : most ≤ 65536) : Calls Try.prog 16 #[.agg (V b), .int .i64 s, .int .i64 most, v] w fun e w' => e = .returned (.bool true) ∧ Below w.heap.size w w' := by
  obtain ⟨ad, cp, rfl, hc⟩ := hv
  clear hc
  have q1 : decide (3000 < b.left) = false := decide_eq_false p1
  have q3 : decide (3000 < most) = true := decide_eq_true p2
  have q4 : decide (most ≤ 65536) = true := decide_eq_true p2'
  go_enter Try.func16, Try.ntmps16
  have hm := Own.nil w
  go_wp2_with (first
    | (refine wpList_box_o hm rfl rfl rfl ?_; intro w1 g hm1; clear hm)
    | (refine wpList_run rfl (exec_loadcell' (off := 256) rfl rfl (hm1.row 0 rfl) one3 (getV1 hl)) ?_)
    | (go_at_call 57; have _t := hm1; refine (wakes16 _).mono ?_; rintro x w2 ⟨rfl, hb2⟩; have hm2 := hm1.call hb2; clear hm1))
  go_ret
  exact ⟨rfl, hm2.below⟩
set_option maxRecDepth 100000 in
set_option maxHeartbeats 1000000 in
theorem sdm_wbf (b : DS) (s most : Int) (l : List Int) (v : Value) (w : World) (hl : b.l.length = 256) (hv : In .i64 w v l) (p1 : 65536 < b.left) (p2 : 3000 < most) (p2' : most ≤ 65536) : Calls Try.prog 16 #[.agg (V b), .int .i64 s, .int .i64 most, v] w fun e w' => e = .returned (.bool true) ∧ Below w.heap.size w w' := by
  obtain ⟨ad, cp, rfl, hc⟩ := hv
  clear hc
  have q1 : decide (3000 < b.left) = true := decide_eq_true (by omega)
  have q2 : decide (b.left ≤ 65536) = false := decide_eq_false (by omega)
  have q3 : decide (3000 < most) = true := decide_eq_true p2
  have q4 : decide (most ≤ 65536) = true := decide_eq_true p2'
  go_enter Try.func16, Try.ntmps16
  have hm := Own.nil w
  go_wp2_with (first
    | (refine wpList_box_o hm rfl rfl rfl ?_; intro w1 g hm1; clear hm)
    | (refine wpList_run rfl (exec_loadcell' (off := 256) rfl rfl (hm1.row 0 rfl) one3 (getV1 hl)) ?_)
    | (go_at_call 57; have _t := hm1; refine (wakes16 _).mono ?_; rintro x w2 ⟨rfl, hb2⟩; have hm2 := hm1.call hb2; clear hm1))
  go_ret
  exact ⟨rfl, hm2.below⟩
set_option maxRecDepth 100000 in
set_option maxHeartbeats 1000000 in
theorem sdm_wacg (b : DS) (s most : Int) (l : List Int) (v : Value) (w : World) (hl : b.l.length = 256) (hv : In .i64 w v l) (p1 : ¬ 3000 < b.left) (p2 : ¬ 3000 < most) (p3 : (300 : Int) < l.length) : Calls Try.prog 16 #[.agg (V b), .int .i64 s, .int .i64 most, v] w fun e w' => e = .returned (.bool true) ∧ Below w.heap.size w w' := by
  obtain ⟨ad, cp, rfl, hc⟩ := hv
  clear hc
  have q1 : decide (3000 < b.left) = false := decide_eq_false p1
  have q3 : decide (3000 < most) = false := decide_eq_false p2
  have q5 : decide ((300 : Int) < l.length) = true := decide_eq_true p3
  go_enter Try.func16, Try.ntmps16
  have hm := Own.nil w
  go_wp2_with (first
    | (refine wpList_box_o hm rfl rfl rfl ?_; intro w1 g hm1; clear hm)
    | (refine wpList_run rfl (exec_loadcell' (off := 256) rfl rfl (hm1.row 0 rfl) one3 (getV1 hl)) ?_)
    | (go_at_call 57; have _t := hm1; refine (wakes16 _).mono ?_; rintro x w2 ⟨rfl, hb2⟩; have hm2 := hm1.call hb2; clear hm1))
  go_ret
  exact ⟨rfl, hm2.below⟩
set_option maxRecDepth 100000 in
set_option maxHeartbeats 1000000 in
theorem sdm_wadg (b : DS) (s most : Int) (l : List Int) (v : Value) (w : World) (hl : b.l.length = 256) (hv : In .i64 w v l) (p1 : ¬ 3000 < b.left) (p2 : 65536 < most) (p3 : (300 : Int) < l.length) : Calls Try.prog 16 #[.agg (V b), .int .i64 s, .int .i64 most, v] w fun e w' => e = .returned (.bool true) ∧ Below w.heap.size w w' := by
  obtain ⟨ad, cp, rfl, hc⟩ := hv
  clear hc
  have q1 : decide (3000 < b.left) = false := decide_eq_false p1
  have q3 : decide (3000 < most) = true := decide_eq_true (by omega)
  have q4 : decide (most ≤ 65536) = false := decide_eq_false (by omega)
  have q5 : decide ((300 : Int) < l.length) = true := decide_eq_true p3
  go_enter Try.func16, Try.ntmps16
  have hm := Own.nil w
  go_wp2_with (first
    | (refine wpList_box_o hm rfl rfl rfl ?_; intro w1 g hm1; clear hm)
    | (refine wpList_run rfl (exec_loadcell' (off := 256) rfl rfl (hm1.row 0 rfl) one3 (getV1 hl)) ?_)
    | (go_at_call 57; have _t := hm1; refine (wakes16 _).mono ?_; rintro x w2 ⟨rfl, hb2⟩; have hm2 := hm1.call hb2; clear hm1))
  go_ret
  exact ⟨rfl, hm2.below⟩
set_option maxRecDepth 100000 in
set_option maxHeartbeats 1000000 in
theorem sdm_wbcg (b : DS) (s most : Int) (l : List Int) (v : Value) (w : World) (hl : b.l.length = 256) (hv : In .i64 w v l) (p1 : 65536 < b.left) (p2 : ¬ 3000 < most) (p3 : (300 : Int) < l.length) : Calls Try.prog 16 #[.agg (V b), .int .i64 s, .int .i64 most, v] w fun e w' => e = .returned (.bool true) ∧ Below w.heap.size w w' := by
  obtain ⟨ad, cp, rfl, hc⟩ := hv
  clear hc
  have q1 : decide (3000 < b.left) = true := decide_eq_true (by omega)
  have q2 : decide (b.left ≤ 65536) = false := decide_eq_false (by omega)
  have q3 : decide (3000 < most) = false := decide_eq_false p2
  have q5 : decide ((300 : Int) < l.length) = true := decide_eq_true p3
  go_enter Try.func16, Try.ntmps16
  have hm := Own.nil w
  go_wp2_with (first
    | (refine wpList_box_o hm rfl rfl rfl ?_; intro w1 g hm1; clear hm)
    | (refine wpList_run rfl (exec_loadcell' (off := 256) rfl rfl (hm1.row 0 rfl) one3 (getV1 hl)) ?_)
    | (go_at_call 57; have _t := hm1; refine (wakes16 _).mono ?_; rintro x w2 ⟨rfl, hb2⟩; have hm2 := hm1.call hb2; clear hm1))
  go_ret
  exact ⟨rfl, hm2.below⟩
set_option maxRecDepth 100000 in
set_option maxHeartbeats 1000000 in
theorem sdm_wbdg (b : DS) (s most : Int) (l : List Int) (v : Value) (w : World) (hl : b.l.length = 256) (hv : In .i64 w v l) (p1 : 65536 < b.left) (p2 : 65536 < most) (p3 : (300 : Int) < l.length) : Calls Try.prog 16 #[.agg (V b), .int .i64 s, .int .i64 most, v] w fun e w' => e = .returned (.bool true) ∧ Below w.heap.size w w' := by
  obtain ⟨ad, cp, rfl, hc⟩ := hv
  clear hc
  have q1 : decide (3000 < b.left) = true := decide_eq_true (by omega)
  have q2 : decide (b.left ≤ 65536) = false := decide_eq_false (by omega)
  have q3 : decide (3000 < most) = true := decide_eq_true (by omega)
  have q4 : decide (most ≤ 65536) = false := decide_eq_false (by omega)
  have q5 : decide ((300 : Int) < l.length) = true := decide_eq_true p3
  go_enter Try.func16, Try.ntmps16
  have hm := Own.nil w
  go_wp2_with (first
    | (refine wpList_box_o hm rfl rfl rfl ?_; intro w1 g hm1; clear hm)
    | (refine wpList_run rfl (exec_loadcell' (off := 256) rfl rfl (hm1.row 0 rfl) one3 (getV1 hl)) ?_)
    | (go_at_call 57; have _t := hm1; refine (wakes16 _).mono ?_; rintro x w2 ⟨rfl, hb2⟩; have hm2 := hm1.call hb2; clear hm1))
  go_ret
  exact ⟨rfl, hm2.below⟩
set_option maxRecDepth 100000 in
set_option maxHeartbeats 8000000 in
theorem sdm_ac (b : DS) (s most : Int) (l : List Int) (v : Value) (w : World) (hl : b.l.length = 256) (hb : Bytes b.l) (hv : In .i64 w v l) (p3 : ¬ (300 : Int) < l.length) (p1 : ¬ 3000 < b.left) (p2 : ¬ 3000 < most) : Calls Try.prog 16 #[.agg (V b), .int .i64 s, .int .i64 most, v] w fun e w' => e = .returned (.bool true) ∧ Below w.heap.size w w' := by
  obtain ⟨ad, cp, rfl, hc⟩ := hv
  have HV : Hid (In .i64 w (.slice ad l.length cp) l) := Lib.hid ⟨ad, cp, rfl, hc⟩
  clear hc
  have q5 : decide ((300 : Int) < l.length) = false := decide_eq_false p3
  have q1 : decide (3000 < b.left) = false := decide_eq_false p1
  have q3 : decide (3000 < most) = false := decide_eq_false p2
  have CS : Hid (∀ w, Calls Try.prog 58 #[.agg (V b), .int .i64 s] w (DPost w (dStp b s))) := Lib.hid fun w => dstep_any b s w hl hb
  have CR : Hid (∀ w, Calls Try.prog 59 #[.agg (V b), .int .i64 s] w (DPost w (dStp b s))) := Lib.hid fun w => rdstep_any b s w hl hb
  have CV : Hid (∀ w, Calls Try.prog 60 #[.agg (V b)] w fun e w' => (e = .returned (.bool (dOk b))) ∧ Below w.heap.size w w') := Lib.hid fun w => dvalid_any b w hl hb
  have CW : Hid (∀ w, Calls Try.prog 61 #[.agg (V b)] w fun e w' => (e = .returned (.bool (dOk b))) ∧ Below w.heap.size w w') := Lib.hid fun w => rdvalid_any b w hl hb
  have CN : Hid (∀ w, Calls Try.prog 62 #[.int .i64 most] w fun e w' => (e = .returned (.agg (V (dNew most)))) ∧ Below w.heap.size w w') := Lib.hid fun w => dnew_any most w
  have CM : Hid (∀ w, Calls Try.prog 63 #[.int .i64 most] w fun e w' => (e = .returned (.agg (V (dNew most)))) ∧ Below w.heap.size w w') := Lib.hid fun w => rdnew_any most w
  have CA : Hid (∀ w v, In .i64 w v l → Calls Try.prog 64 #[.int .i64 most, v] w (TPost w (dAll most l))) := Lib.hid fun w v hv => dall_any most l v w hv (by omega)
  have CB : Hid (∀ w v, In .i64 w v l → Calls Try.prog 65 #[.int .i64 most, v] w (TPost w (dAll most l))) := Lib.hid fun w v hv => rdall_any most l v w hv (by omega)
  have ho := len_dStp b s hl
  have hN := len_dNew most
  generalize dStp b s = D at *
  obtain ⟨o, t, f, e⟩ := D
  generalize dOk b = r at *
  generalize dNew most = N at *
  generalize dAll most l = T at *
  obtain ⟨x0, n0, z0⟩ := T
  dsimp only at ho
  have d1 : (f != f) = false := bne_self_eq_false f
  have d2 : (r != r) = false := bne_self_eq_false r
  have d3 : (e != e) = false := bne_self_eq_false e
  go_enter Try.func16, Try.ntmps16
  have hm := Own.nil w
  go_upto_region 5 with (first
    | (refine wpList_box_o hm rfl rfl rfl ?_; intro w1 g hm1; clear hm)
    | (refine wpList_run rfl (exec_loadcell' (off := 256) rfl rfl (hm1.row 0 rfl) one3 (getV1 hl)) ?_)
    | (refine wpList_load_all rfl rfl rfl (hm1.row 0 rfl) (aggV hl) ?_)
    | (go_at_call 58; have _t := hm1; refine (CS.out _).mono ?_; rintro x w2 ⟨⟨r2, rfl, hs2⟩, hb2⟩; obtain ⟨a2, c2, rfl⟩ := hs2.shape; have hm2 := hm1.call hb2; have HS2 := Lib.hid hs2.src; clear hm1 hs2)
    | (have _t := hm2; refine wpList_alloc_x hm2 rfl rfl zero70 ?_; intro hm3)
    | (have _t := hm3; refine wpList_store_x 0 hm3 rfl rfl rfl rfl rfl (aggV ho) (size_VV ho len_DS0) (V_one _) ?_; intro hm4; simp only [List.set] at hm4; have HA4 := Lib.hid (HS2.out.fresh (V DS0) 70 (V o)); generalize World.setRow _ _ (V o) = w4 at hm4 HA4 ⊢; generalize w2.heap.size = g4 at hm4 ⊢; clear hm2 hm3 HS2)
    | (refine wpList_load_all rfl rfl rfl (hm4.row 1 rfl) (aggV hl) ?_)
    | (go_at_call 59; have _t := hm4; refine (CR.out _).mono ?_; rintro x w5 ⟨⟨r5, rfl, hs5⟩, hb5⟩; obtain ⟨a5, c5, rfl⟩ := hs5.shape; have hm5 := hm4.call hb5; have HA5 := Lib.hid (HA4.out.below hb5); have HS5 := Lib.hid hs5.src; clear hm4 hs5 HA4)
    | (have _t := hm5; refine wpList_alloc_x hm5 rfl rfl zero70 ?_; intro hm6)
    | (have _t := hm6; refine wpList_store_x 0 hm6 rfl rfl rfl rfl rfl (aggV ho) (size_VV ho len_DS0) (V_one _) ?_; intro hm7; simp only [List.set] at hm7; have HA7 := Lib.hid (HA5.out.fresh (V DS0) 70 (V o)); have HB7 := Lib.hid (HS5.out.fresh (V DS0) 70 (V o)); generalize World.setRow _ _ (V o) = w7 at hm7 HA7 HB7 ⊢; generalize w5.heap.size = g7 at hm7 ⊢; clear hm5 hm6 HS5 HA5))
  refine wp_region_T (.rd 0 (.rd 1 (.rd 2 (.rd 3 (.rd 4 (.rd 5 (.rd 6 (.rd 7 (.rd 8 (.rd 9 (.rd 10 (.rd 11 (.rd 12 (.rd 13 (.rd 14 (.rd 15 (.rd 16 (.rd 17 (.rd 18 (.rd 19 (.rd 20 (.rd 21 (.rd 23 (.one 22 (.one 24 (.rd 25 (.rd 26 (.rd 27 (.rd 28 (.rd 30 (.one 29 (.one 31 (.rd 32 (.rd 33 (.done))))))))))))))))))))))))))))))))))) (fun W => Below w.heap.size w W ∧ RowIs W g7 (V o) ∧ RowIs W g4 (V o) ∧ RowIs W g (V b) ∧ Src W (.slice a2 t.length c2) (vs .u8 t) ∧ Src W (.slice a5 t.length c5) (vs .u8 t)) rfl (by kernel_rfl) rfl (by kernel_rfl) (fun _ _ d _ _ h => by cases d <;> exact h) ⟨(hm7.drawn (w7.drawn + 1)).below, (hm7.drawn (w7.drawn + 1)).row 0 rfl, (hm7.drawn (w7.drawn + 1)).row 1 rfl, (hm7.drawn (w7.drawn + 1)).row 2 rfl, HA7.out, HB7.out⟩ ?_
  have k0 := hm7.drawn (w7.drawn + 1)
  have HA0 : Hid (Src { w7 with drawn := w7.drawn + 1 } (.slice a2 t.length c2) (vs .u8 t)) := Lib.hid HA7.out
  have HB0 : Hid (Src { w7 with drawn := w7.drawn + 1 } (.slice a5 t.length c5) (vs .u8 t)) := Lib.hid HB7.out
  generalize ({ w7 with drawn := w7.drawn + 1 } : World) = wn at k0 HA0 HB0 ⊢
  clear hm7 HA7 HB7
  refine T_read rfl rfl (fun W hW => exec_load_all rfl rfl hW.2.2.1 (aggV ho)) ?_
  try simp only [Act.put, List.setIfInBounds_toArray, List.set_cons_zero, List.set_cons_succ]
  refine T_read rfl rfl (fun W hW => exec_load_all rfl rfl hW.2.1 (aggV ho)) ?_
  try simp only [Act.put, List.setIfInBounds_toArray, List.set_cons_zero, List.set_cons_succ]
  refine T_read rfl rfl (fun W hW => exec_neq70 rfl rfl rfl ho ho (r := false) (by rw [dsEq_self]; rfl)) ?_
  try simp only [Act.put, List.setIfInBounds_toArray, List.set_cons_zero, List.set_cons_succ]
  refine T_read rfl rfl (fun W hW => by go_simp; rfl) ?_
  try simp only [Act.put, List.setIfInBounds_toArray, List.set_cons_zero, List.set_cons_succ]
  refine T_read rfl rfl (fun W hW => by go_simp; rfl) ?_
  try simp only [Act.put, List.setIfInBounds_toArray, List.set_cons_zero, List.set_cons_succ]
  refine T_read rfl rfl (fun W hW => exec_tostr_s (l := t) (v := .slice a2 t.length c2) rfl rfl hW.2.2.2.2.1) ?_
  try simp only [Act.put, List.setIfInBounds_toArray, List.set_cons_zero, List.set_cons_succ]
  refine T_read rfl rfl (fun W hW => by go_simp; rfl) ?_
  try simp only [Act.put, List.setIfInBounds_toArray, List.set_cons_zero, List.set_cons_succ]
  refine T_read rfl rfl (fun W hW => exec_tostr_s (l := t) (v := .slice a5 t.length c5) rfl rfl hW.2.2.2.2.2) ?_
  try simp only [Act.put, List.setIfInBounds_toArray, List.set_cons_zero, List.set_cons_succ]
  refine T_read rfl rfl (fun W hW => sdm_neqstr rfl rfl rfl (b := false) (by simp)) ?_
  try simp only [Act.put, List.setIfInBounds_toArray, List.set_cons_zero, List.set_cons_succ]
  refine T_read rfl rfl (fun W hW => by go_simp; rfl) ?_
  try simp only [Act.put, List.setIfInBounds_toArray, List.set_cons_zero, List.set_cons_succ]
  refine T_read rfl rfl (fun W hW => by go_simp; rfl) ?_
  try simp only [Act.put, List.setIfInBounds_toArray, List.set_cons_zero, List.set_cons_succ]
  refine T_read rfl rfl (fun W hW => by go_simp; rfl) ?_
  try simp only [Act.put, List.setIfInBounds_toArray, List.set_cons_zero, List.set_cons_succ]
  refine T_read rfl rfl (fun W hW => by go_simp; rfl) ?_
  try simp only [Act.put, List.setIfInBounds_toArray, List.set_cons_zero, List.set_cons_succ]
  refine T_read rfl rfl (fun W hW => by go_simp; rfl) ?_
  try simp only [Act.put, List.setIfInBounds_toArray, List.set_cons_zero, List.set_cons_succ]
  refine T_read rfl rfl (fun W hW => by go_simp; rfl) ?_
  try simp only [Act.put, List.setIfInBounds_toArray, List.set_cons_zero, List.set_cons_succ]
  refine T_read rfl rfl (fun W hW => by go_simp; rfl) ?_
  try simp only [Act.put, List.setIfInBounds_toArray, List.set_cons_zero, List.set_cons_succ]
  refine T_read rfl rfl (fun W hW => by go_simp; rfl) ?_
  try simp only [Act.put, List.setIfInBounds_toArray, List.set_cons_zero, List.set_cons_succ]
  refine T_read rfl rfl (fun W hW => by go_simp; rfl) ?_
  try simp only [Act.put, List.setIfInBounds_toArray, List.set_cons_zero, List.set_cons_succ]
  refine T_read rfl rfl (fun W hW => by go_simp; rfl) ?_
  try simp only [Act.put, List.setIfInBounds_toArray, List.set_cons_zero, List.set_cons_succ]
  refine T_read rfl rfl (fun W hW => by go_simp; rfl) ?_
  try simp only [Act.put, List.setIfInBounds_toArray, List.set_cons_zero, List.set_cons_succ]
  refine T_read rfl rfl (fun W hW => by go_simp; rfl) ?_
  try simp only [Act.put, List.setIfInBounds_toArray, List.set_cons_zero, List.set_cons_succ]
  refine T_read rfl rfl (fun W hW => exec_load_all rfl rfl hW.2.2.2.1 (aggV hl)) ?_
  try simp only [Act.put, List.setIfInBounds_toArray, List.set_cons_zero, List.set_cons_succ]
  refine T_read rfl rfl (fun W hW => exec_load_all rfl rfl hW.2.2.2.1 (aggV hl)) ?_
  try simp only [Act.put, List.setIfInBounds_toArray, List.set_cons_zero, List.set_cons_succ]
  refine T_one ?_
  refine oneT_do rfl rfl (fun K hK => ?_)
  go_simp
  refine (CV.out _).mono ?_
  rintro x v1 ⟨rfl, hb1⟩
  have k1 := k0.call hb1
  have HA1 := Lib.hid (HA0.out.below hb1)
  have HB1 := Lib.hid (HB0.out.below hb1)
  clear k0 HA0 HB0
  refine hK _ _ ⟨_, fun _ h => h, ⟨k1.below, k1.row 0 rfl, k1.row 1 rfl, k1.row 2 rfl, HA1.out, HB1.out⟩, ?_⟩
  clear hK K
  try simp only [Act.put, List.setIfInBounds_toArray, List.set_cons_zero, List.set_cons_succ]
  refine T_one ?_
  refine oneT_do rfl rfl (fun K hK => ?_)
  go_simp
  refine (CW.out _).mono ?_
  rintro x v2 ⟨rfl, hb2⟩
  have k2 := k1.call hb2
  have HA2 := Lib.hid (HA1.out.below hb2)
  have HB2 := Lib.hid (HB1.out.below hb2)
  clear k1 HA1 HB1
  refine hK _ _ ⟨_, fun _ h => h, ⟨k2.below, k2.row 0 rfl, k2.row 1 rfl, k2.row 2 rfl, HA2.out, HB2.out⟩, ?_⟩
  clear hK K
  try simp only [Act.put, List.setIfInBounds_toArray, List.set_cons_zero, List.set_cons_succ]
  refine T_read rfl rfl (fun W hW => by go_simp; rfl) ?_
  try simp only [Act.put, List.setIfInBounds_toArray, List.set_cons_zero, List.set_cons_succ]
  refine T_read rfl rfl (fun W hW => by go_simp; rfl) ?_
  try simp only [Act.put, List.setIfInBounds_toArray, List.set_cons_zero, List.set_cons_succ]
  refine T_read rfl rfl (fun W hW => by go_simp; rfl) ?_
  try simp only [Act.put, List.setIfInBounds_toArray, List.set_cons_zero, List.set_cons_succ]
  refine T_read rfl rfl (fun W hW => by go_simp; rfl) ?_
  try simp only [Act.put, List.setIfInBounds_toArray, List.set_cons_zero, List.set_cons_succ]
  refine T_read rfl rfl (fun W hW => by go_simp; rfl) ?_
  try simp only [Act.put, List.setIfInBounds_toArray, List.set_cons_zero, List.set_cons_succ]
  refine T_one ?_
  refine oneT_do rfl rfl (fun K hK => ?_)
  go_simp
  refine (CN.out _).mono ?_
  rintro x v3 ⟨rfl, hb3⟩
  have k3 := k2.call hb3
  have HA3 := Lib.hid (HA2.out.below hb3)
  have HB3 := Lib.hid (HB2.out.below hb3)
  clear k2 HA2 HB2
  refine hK _ _ ⟨_, fun _ h => h, ⟨k3.below, k3.row 0 rfl, k3.row 1 rfl, k3.row 2 rfl, HA3.out, HB3.out⟩, ?_⟩
  clear hK K
  try simp only [Act.put, List.setIfInBounds_toArray, List.set_cons_zero, List.set_cons_succ]
  refine T_one ?_
  refine oneT_do rfl rfl (fun K hK => ?_)
  go_simp
  refine (CM.out _).mono ?_
  rintro x v4 ⟨rfl, hb4⟩
  have k4 := k3.call hb4
  have HA4 := Lib.hid (HA3.out.below hb4)
  have HB4 := Lib.hid (HB3.out.below hb4)
  clear k3 HA3 HB3
  refine hK _ _ ⟨_, fun _ h => h, ⟨k4.below, k4.row 0 rfl, k4.row 1 rfl, k4.row 2 rfl, HA4.out, HB4.out⟩, ?_⟩
  clear hK K
  try simp only [Act.put, List.setIfInBounds_toArray, List.set_cons_zero, List.set_cons_succ]
  refine T_read rfl rfl (fun W hW => exec_neq70 rfl rfl rfl hN hN (r := false) (by rw [dsEq_self]; rfl)) ?_
  try simp only [Act.put, List.setIfInBounds_toArray, List.set_cons_zero, List.set_cons_succ]
  refine T_read rfl rfl (fun W hW => by go_simp; rfl) ?_
  try simp only [Act.put, List.setIfInBounds_toArray, List.set_cons_zero, List.set_cons_succ]
  refine T_done ?_
  have hm8 := k4
  clear k4 HA4 HB4
  go_simp
  go_wp2_with (first
    | (go_at_call 64; have _t := hm8; refine (CA.out _ _ (HV.out.below hm8.below)).mono ?_; rintro x w9 ⟨⟨r9, rfl, hq9⟩, hb9⟩; obtain ⟨a9, c9, rfl⟩ := owns_shape0 hq9; have hm9 := hm8.callSl hb9 (by rw [length_vs]; exact hq9); clear hm8 hq9)
    | (go_at_call 65; have _t := hm9; refine (CB.out _ _ (HV.out.below hm9.below)).mono ?_; rintro x w10 ⟨⟨r10, rfl, hq10⟩, hb10⟩; obtain ⟨a10, c10, rfl⟩ := owns_shape0 hq10; have hm10 := hm9.callSl hb10 (by rw [length_vs]; exact hq10); clear hm9 hq10)
    | (refine wpList_run rfl (exec_tostr_s (v := .slice a9 x0.length c9) (l := x0) rfl rfl (Src.of_owned (hm10.get 1 rfl))) ?_)
    | (refine wpList_run rfl (exec_tostr_s (v := .slice a10 x0.length c10) (l := x0) rfl rfl (Src.of_owned (hm10.get 0 rfl))) ?_)
    | (refine wpList_run rfl (exec_eqlstr rfl rfl rfl (b := true) (beq_self_eq_true _)) ?_)
    | (go_at_call 57; have _t := hm10; refine (wakes16 _).mono ?_; rintro x w11 ⟨rfl, hb11⟩; have hm11 := hm10.call hb11; clear hm10))
  go_ret
  exact ⟨rfl, hm11.below⟩
set_option maxRecDepth 100000 in
set_option maxHeartbeats 8000000 in
theorem sdm_ad (b : DS) (s most : Int) (l : List Int) (v : Value) (w : World) (hl : b.l.length = 256) (hb : Bytes b.l) (hv : In .i64 w v l) (p3 : ¬ (300 : Int) < l.length) (p1 : ¬ 3000 < b.left) (p2 : 65536 < most) : Calls Try.prog 16 #[.agg (V b), .int .i64 s, .int .i64 most, v] w fun e w' => e = .returned (.bool true) ∧ Below w.heap.size w w' := by
  obtain ⟨ad, cp, rfl, hc⟩ := hv
  have HV : Hid (In .i64 w (.slice ad l.length cp) l) := Lib.hid ⟨ad, cp, rfl, hc⟩
  clear hc
  have q5 : decide ((300 : Int) < l.length) = false := decide_eq_false p3
  have q1 : decide (3000 < b.left) = false := decide_eq_false p1
  have q3 : decide (3000 < most) = true := decide_eq_true (by omega)
  have q4 : decide (most ≤ 65536) = false := decide_eq_false (by omega)
  have CS : Hid (∀ w, Calls Try.prog 58 #[.agg (V b), .int .i64 s] w (DPost w (dStp b s))) := Lib.hid fun w => dstep_any b s w hl hb
  have CR : Hid (∀ w, Calls Try.prog 59 #[.agg (V b), .int .i64 s] w (DPost w (dStp b s))) := Lib.hid fun w => rdstep_any b s w hl hb
  have CV : Hid (∀ w, Calls Try.prog 60 #[.agg (V b)] w fun e w' => (e = .returned (.bool (dOk b))) ∧ Below w.heap.size w w') := Lib.hid fun w => dvalid_any b w hl hb
  have CW : Hid (∀ w, Calls Try.prog 61 #[.agg (V b)] w fun e w' => (e = .returned (.bool (dOk b))) ∧ Below w.heap.size w w') := Lib.hid fun w => rdvalid_any b w hl hb
  have CN : Hid (∀ w, Calls Try.prog 62 #[.int .i64 most] w fun e w' => (e = .returned (.agg (V (dNew most)))) ∧ Below w.heap.size w w') := Lib.hid fun w => dnew_any most w
  have CM : Hid (∀ w, Calls Try.prog 63 #[.int .i64 most] w fun e w' => (e = .returned (.agg (V (dNew most)))) ∧ Below w.heap.size w w') := Lib.hid fun w => rdnew_any most w
  have CA : Hid (∀ w v, In .i64 w v l → Calls Try.prog 64 #[.int .i64 most, v] w (TPost w (dAll most l))) := Lib.hid fun w v hv => dall_any most l v w hv (by omega)
  have CB : Hid (∀ w v, In .i64 w v l → Calls Try.prog 65 #[.int .i64 most, v] w (TPost w (dAll most l))) := Lib.hid fun w v hv => rdall_any most l v w hv (by omega)
  have ho := len_dStp b s hl
  have hN := len_dNew most
  generalize dStp b s = D at *
  obtain ⟨o, t, f, e⟩ := D
  generalize dOk b = r at *
  generalize dNew most = N at *
  generalize dAll most l = T at *
  obtain ⟨x0, n0, z0⟩ := T
  dsimp only at ho
  have d1 : (f != f) = false := bne_self_eq_false f
  have d2 : (r != r) = false := bne_self_eq_false r
  have d3 : (e != e) = false := bne_self_eq_false e
  go_enter Try.func16, Try.ntmps16
  have hm := Own.nil w
  go_upto_region 5 with (first
    | (refine wpList_box_o hm rfl rfl rfl ?_; intro w1 g hm1; clear hm)
    | (refine wpList_run rfl (exec_loadcell' (off := 256) rfl rfl (hm1.row 0 rfl) one3 (getV1 hl)) ?_)
    | (refine wpList_load_all rfl rfl rfl (hm1.row 0 rfl) (aggV hl) ?_)
    | (go_at_call 58; have _t := hm1; refine (CS.out _).mono ?_; rintro x w2 ⟨⟨r2, rfl, hs2⟩, hb2⟩; obtain ⟨a2, c2, rfl⟩ := hs2.shape; have hm2 := hm1.call hb2; have HS2 := Lib.hid hs2.src; clear hm1 hs2)
    | (have _t := hm2; refine wpList_alloc_x hm2 rfl rfl zero70 ?_; intro hm3)
    | (have _t := hm3; refine wpList_store_x 0 hm3 rfl rfl rfl rfl rfl (aggV ho) (size_VV ho len_DS0) (V_one _) ?_; intro hm4; simp only [List.set] at hm4; have HA4 := Lib.hid (HS2.out.fresh (V DS0) 70 (V o)); generalize World.setRow _ _ (V o) = w4 at hm4 HA4 ⊢; generalize w2.heap.size = g4 at hm4 ⊢; clear hm2 hm3 HS2)
    | (refine wpList_load_all rfl rfl rfl (hm4.row 1 rfl) (aggV hl) ?_)
    | (go_at_call 59; have _t := hm4; refine (CR.out _).mono ?_; rintro x w5 ⟨⟨r5, rfl, hs5⟩, hb5⟩; obtain ⟨a5, c5, rfl⟩ := hs5.shape; have hm5 := hm4.call hb5; have HA5 := Lib.hid (HA4.out.below hb5); have HS5 := Lib.hid hs5.src; clear hm4 hs5 HA4)
    | (have _t := hm5; refine wpList_alloc_x hm5 rfl rfl zero70 ?_; intro hm6)
    | (have _t := hm6; refine wpList_store_x 0 hm6 rfl rfl rfl rfl rfl (aggV ho) (size_VV ho len_DS0) (V_one _) ?_; intro hm7; simp only [List.set] at hm7; have HA7 := Lib.hid (HA5.out.fresh (V DS0) 70 (V o)); have HB7 := Lib.hid (HS5.out.fresh (V DS0) 70 (V o)); generalize World.setRow _ _ (V o) = w7 at hm7 HA7 HB7 ⊢; generalize w5.heap.size = g7 at hm7 ⊢; clear hm5 hm6 HS5 HA5))
  refine wp_region_T (.rd 0 (.rd 1 (.rd 2 (.rd 3 (.rd 4 (.rd 5 (.rd 6 (.rd 7 (.rd 8 (.rd 9 (.rd 10 (.rd 11 (.rd 12 (.rd 13 (.rd 14 (.rd 15 (.rd 16 (.rd 17 (.rd 18 (.rd 19 (.rd 20 (.rd 21 (.rd 23 (.one 22 (.one 24 (.rd 25 (.rd 26 (.rd 27 (.rd 28 (.rd 30 (.one 29 (.one 31 (.rd 32 (.rd 33 (.done))))))))))))))))))))))))))))))))))) (fun W => Below w.heap.size w W ∧ RowIs W g7 (V o) ∧ RowIs W g4 (V o) ∧ RowIs W g (V b) ∧ Src W (.slice a2 t.length c2) (vs .u8 t) ∧ Src W (.slice a5 t.length c5) (vs .u8 t)) rfl (by kernel_rfl) rfl (by kernel_rfl) (fun _ _ d _ _ h => by cases d <;> exact h) ⟨(hm7.drawn (w7.drawn + 1)).below, (hm7.drawn (w7.drawn + 1)).row 0 rfl, (hm7.drawn (w7.drawn + 1)).row 1 rfl, (hm7.drawn (w7.drawn + 1)).row 2 rfl, HA7.out, HB7.out⟩ ?_
  have k0 := hm7.drawn (w7.drawn + 1)
  have HA0 : Hid (Src { w7 with drawn := w7.drawn + 1 } (.slice a2 t.length c2) (vs .u8 t)) := Lib.hid HA7.out
  have HB0 : Hid (Src { w7 with drawn := w7.drawn + 1 } (.slice a5 t.length c5) (vs .u8 t)) := Lib.hid HB7.out
  generalize ({ w7 with drawn := w7.drawn + 1 } : World) = wn at k0 HA0 HB0 ⊢
  clear hm7 HA7 HB7
  refine T_read rfl rfl (fun W hW => exec_load_all rfl rfl hW.2.2.1 (aggV ho)) ?_
  try simp only [Act.put, List.setIfInBounds_toArray, List.set_cons_zero, List.set_cons_succ]
  refine T_read rfl rfl (fun W hW => exec_load_all rfl rfl hW.2.1 (aggV ho)) ?_
  try simp only [Act.put, List.setIfInBounds_toArray, List.set_cons_zero, List.set_cons_succ]
  refine T_read rfl rfl (fun W hW => exec_neq70 rfl rfl rfl ho ho (r := false) (by rw [dsEq_self]; rfl)) ?_
  try simp only [Act.put, List.setIfInBounds_toArray, List.set_cons_zero, List.set_cons_succ]
  refine T_read rfl rfl (fun W hW => by go_simp; rfl) ?_
  try simp only [Act.put, List.setIfInBounds_toArray, List.set_cons_zero, List.set_cons_succ]
  refine T_read rfl rfl (fun W hW => by go_simp; rfl) ?_
  try simp only [Act.put, List.setIfInBounds_toArray, List.set_cons_zero, List.set_cons_succ]
  refine T_read rfl rfl (fun W hW => exec_tostr_s (l := t) (v := .slice a2 t.length c2) rfl rfl hW.2.2.2.2.1) ?_
  try simp only [Act.put, List.setIfInBounds_toArray, List.set_cons_zero, List.set_cons_succ]
  refine T_read rfl rfl (fun W hW => by go_simp; rfl) ?_
  try simp only [Act.put, List.setIfInBounds_toArray, List.set_cons_zero, List.set_cons_succ]
  refine T_read rfl rfl (fun W hW => exec_tostr_s (l := t) (v := .slice a5 t.length c5) rfl rfl hW.2.2.2.2.2) ?_
  try simp only [Act.put, List.setIfInBounds_toArray, List.set_cons_zero, List.set_cons_succ]
  refine T_read rfl rfl (fun W hW => sdm_neqstr rfl rfl rfl (b := false) (by simp)) ?_
  try simp only [Act.put, List.setIfInBounds_toArray, List.set_cons_zero, List.set_cons_succ]
  refine T_read rfl rfl (fun W hW => by go_simp; rfl) ?_
  try simp only [Act.put, List.setIfInBounds_toArray, List.set_cons_zero, List.set_cons_succ]
  refine T_read rfl rfl (fun W hW => by go_simp; rfl) ?_
  try simp only [Act.put, List.setIfInBounds_toArray, List.set_cons_zero, List.set_cons_succ]
  refine T_read rfl rfl (fun W hW => by go_simp; rfl) ?_
  try simp only [Act.put, List.setIfInBounds_toArray, List.set_cons_zero, List.set_cons_succ]
  refine T_read rfl rfl (fun W hW => by go_simp; rfl) ?_
  try simp only [Act.put, List.setIfInBounds_toArray, List.set_cons_zero, List.set_cons_succ]
  refine T_read rfl rfl (fun W hW => by go_simp; rfl) ?_
  try simp only [Act.put, List.setIfInBounds_toArray, List.set_cons_zero, List.set_cons_succ]
  refine T_read rfl rfl (fun W hW => by go_simp; rfl) ?_
  try simp only [Act.put, List.setIfInBounds_toArray, List.set_cons_zero, List.set_cons_succ]
  refine T_read rfl rfl (fun W hW => by go_simp; rfl) ?_
  try simp only [Act.put, List.setIfInBounds_toArray, List.set_cons_zero, List.set_cons_succ]
  refine T_read rfl rfl (fun W hW => by go_simp; rfl) ?_
  try simp only [Act.put, List.setIfInBounds_toArray, List.set_cons_zero, List.set_cons_succ]
  refine T_read rfl rfl (fun W hW => by go_simp; rfl) ?_
  try simp only [Act.put, List.setIfInBounds_toArray, List.set_cons_zero, List.set_cons_succ]
  refine T_read rfl rfl (fun W hW => by go_simp; rfl) ?_
  try simp only [Act.put, List.setIfInBounds_toArray, List.set_cons_zero, List.set_cons_succ]
  refine T_read rfl rfl (fun W hW => by go_simp; rfl) ?_
  try simp only [Act.put, List.setIfInBounds_toArray, List.set_cons_zero, List.set_cons_succ]
  refine T_read rfl rfl (fun W hW => by go_simp; rfl) ?_
  try simp only [Act.put, List.setIfInBounds_toArray, List.set_cons_zero, List.set_cons_succ]
  refine T_read rfl rfl (fun W hW => exec_load_all rfl rfl hW.2.2.2.1 (aggV hl)) ?_
  try simp only [Act.put, List.setIfInBounds_toArray, List.set_cons_zero, List.set_cons_succ]
  refine T_read rfl rfl (fun W hW => exec_load_all rfl rfl hW.2.2.2.1 (aggV hl)) ?_
  try simp only [Act.put, List.setIfInBounds_toArray, List.set_cons_zero, List.set_cons_succ]
  refine T_one ?_
  refine oneT_do rfl rfl (fun K hK => ?_)
  go_simp
  refine (CV.out _).mono ?_
  rintro x v1 ⟨rfl, hb1⟩
  have k1 := k0.call hb1
  have HA1 := Lib.hid (HA0.out.below hb1)
  have HB1 := Lib.hid (HB0.out.below hb1)
  clear k0 HA0 HB0
  refine hK _ _ ⟨_, fun _ h => h, ⟨k1.below, k1.row 0 rfl, k1.row 1 rfl, k1.row 2 rfl, HA1.out, HB1.out⟩, ?_⟩
  clear hK K
  try simp only [Act.put, List.setIfInBounds_toArray, List.set_cons_zero, List.set_cons_succ]
  refine T_one ?_
  refine oneT_do rfl rfl (fun K hK => ?_)
  go_simp
  refine (CW.out _).mono ?_
  rintro x v2 ⟨rfl, hb2⟩
  have k2 := k1.call hb2
  have HA2 := Lib.hid (HA1.out.below hb2)
  have HB2 := Lib.hid (HB1.out.below hb2)
  clear k1 HA1 HB1
  refine hK _ _ ⟨_, fun _ h => h, ⟨k2.below, k2.row 0 rfl, k2.row 1 rfl, k2.row 2 rfl, HA2.out, HB2.out⟩, ?_⟩
  clear hK K
  try simp only [Act.put, List.setIfInBounds_toArray, List.set_cons_zero, List.set_cons_succ]
  refine T_read rfl rfl (fun W hW => by go_simp; rfl) ?_
  try simp only [Act.put, List.setIfInBounds_toArray, List.set_cons_zero, List.set_cons_succ]
  refine T_read rfl rfl (fun W hW => by go_simp; rfl) ?_
  try simp only [Act.put, List.setIfInBounds_toArray, List.set_cons_zero, List.set_cons_succ]
  refine T_read rfl rfl (fun W hW => by go_simp; rfl) ?_
  try simp only [Act.put, List.setIfInBounds_toArray, List.set_cons_zero, List.set_cons_succ]
  refine T_read rfl rfl (fun W hW => by go_simp; rfl) ?_
  try simp only [Act.put, List.setIfInBounds_toArray, List.set_cons_zero, List.set_cons_succ]
  refine T_read rfl rfl (fun W hW => by go_simp; rfl) ?_
  try simp only [Act.put, List.setIfInBounds_toArray, List.set_cons_zero, List.set_cons_succ]
  refine T_one ?_
  refine oneT_do rfl rfl (fun K hK => ?_)
  go_simp
  refine (CN.out _).mono ?_
  rintro x v3 ⟨rfl, hb3⟩
  have k3 := k2.call hb3
  have HA3 := Lib.hid (HA2.out.below hb3)
  have HB3 := Lib.hid (HB2.out.below hb3)
  clear k2 HA2 HB2
  refine hK _ _ ⟨_, fun _ h => h, ⟨k3.below, k3.row 0 rfl, k3.row 1 rfl, k3.row 2 rfl, HA3.out, HB3.out⟩, ?_⟩
  clear hK K
  try simp only [Act.put, List.setIfInBounds_toArray, List.set_cons_zero, List.set_cons_succ]
  refine T_one ?_
  refine oneT_do rfl rfl (fun K hK => ?_)
  go_simp
  refine (CM.out _).mono ?_
  rintro x v4 ⟨rfl, hb4⟩
  have k4 := k3.call hb4
  have HA4 := Lib.hid (HA3.out.below hb4)
  have HB4 := Lib.hid (HB3.out.below hb4)
  clear k3 HA3 HB3
  refine hK _ _ ⟨_, fun _ h => h, ⟨k4.below, k4.row 0 rfl, k4.row 1 rfl, k4.row 2 rfl, HA4.out, HB4.out⟩, ?_⟩
  clear hK K
  try simp only [Act.put, List.setIfInBounds_toArray, List.set_cons_zero, List.set_cons_succ]
  refine T_read rfl rfl (fun W hW => exec_neq70 rfl rfl rfl hN hN (r := false) (by rw [dsEq_self]; rfl)) ?_
  try simp only [Act.put, List.setIfInBounds_toArray, List.set_cons_zero, List.set_cons_succ]
  refine T_read rfl rfl (fun W hW => by go_simp; rfl) ?_
  try simp only [Act.put, List.setIfInBounds_toArray, List.set_cons_zero, List.set_cons_succ]
  refine T_done ?_
  have hm8 := k4
  clear k4 HA4 HB4
  go_simp
  go_wp2_with (first
    | (go_at_call 64; have _t := hm8; refine (CA.out _ _ (HV.out.below hm8.below)).mono ?_; rintro x w9 ⟨⟨r9, rfl, hq9⟩, hb9⟩; obtain ⟨a9, c9, rfl⟩ := owns_shape0 hq9; have hm9 := hm8.callSl hb9 (by rw [length_vs]; exact hq9); clear hm8 hq9)
    | (go_at_call 65; have _t := hm9; refine (CB.out _ _ (HV.out.below hm9.below)).mono ?_; rintro x w10 ⟨⟨r10, rfl, hq10⟩, hb10⟩; obtain ⟨a10, c10, rfl⟩ := owns_shape0 hq10; have hm10 := hm9.callSl hb10 (by rw [length_vs]; exact hq10); clear hm9 hq10)
    | (refine wpList_run rfl (exec_tostr_s (v := .slice a9 x0.length c9) (l := x0) rfl rfl (Src.of_owned (hm10.get 1 rfl))) ?_)
    | (refine wpList_run rfl (exec_tostr_s (v := .slice a10 x0.length c10) (l := x0) rfl rfl (Src.of_owned (hm10.get 0 rfl))) ?_)
    | (refine wpList_run rfl (exec_eqlstr rfl rfl rfl (b := true) (beq_self_eq_true _)) ?_)
    | (go_at_call 57; have _t := hm10; refine (wakes16 _).mono ?_; rintro x w11 ⟨rfl, hb11⟩; have hm11 := hm10.call hb11; clear hm10))
  go_ret
  exact ⟨rfl, hm11.below⟩
set_option maxRecDepth 100000 in
set_option maxHeartbeats 8000000 in
theorem sdm_bc (b : DS) (s most : Int) (l : List Int) (v : Value) (w : World) (hl : b.l.length = 256) (hb : Bytes b.l) (hv : In .i64 w v l) (p3 : ¬ (300 : Int) < l.length) (p1 : 65536 < b.left) (p2 : ¬ 3000 < most) : Calls Try.prog 16 #[.agg (V b), .int .i64 s, .int .i64 most, v] w fun e w' => e = .returned (.bool true) ∧ Below w.heap.size w w' := by
  obtain ⟨ad, cp, rfl, hc⟩ := hv
  have HV : Hid (In .i64 w (.slice ad l.length cp) l) := Lib.hid ⟨ad, cp, rfl, hc⟩
  clear hc
  have q5 : decide ((300 : Int) < l.length) = false := decide_eq_false p3
  have q1 : decide (3000 < b.left) = true := decide_eq_true (by omega)
  have q2 : decide (b.left ≤ 65536) = false := decide_eq_false (by omega)
  have q3 : decide (3000 < most) = false := decide_eq_false p2
  have CS : Hid (∀ w, Calls Try.prog 58 #[.agg (V b), .int .i64 s] w (DPost w (dStp b s))) := Lib.hid fun w => dstep_any b s w hl hb
  have CR : Hid (∀ w, Calls Try.prog 59 #[.agg (V b), .int .i64 s] w (DPost w (dStp b s))) := Lib.hid fun w => rdstep_any b s w hl hb
  have CV : Hid (∀ w, Calls Try.prog 60 #[.agg (V b)] w fun e w' => (e = .returned (.bool (dOk b))) ∧ Below w.heap.size w w') := Lib.hid fun w => dvalid_any b w hl hb
  have CW : Hid (∀ w, Calls Try.prog 61 #[.agg (V b)] w fun e w' => (e = .returned (.bool (dOk b))) ∧ Below w.heap.size w w') := Lib.hid fun w => rdvalid_any b w hl hb
  have CN : Hid (∀ w, Calls Try.prog 62 #[.int .i64 most] w fun e w' => (e = .returned (.agg (V (dNew most)))) ∧ Below w.heap.size w w') := Lib.hid fun w => dnew_any most w
  have CM : Hid (∀ w, Calls Try.prog 63 #[.int .i64 most] w fun e w' => (e = .returned (.agg (V (dNew most)))) ∧ Below w.heap.size w w') := Lib.hid fun w => rdnew_any most w
  have CA : Hid (∀ w v, In .i64 w v l → Calls Try.prog 64 #[.int .i64 most, v] w (TPost w (dAll most l))) := Lib.hid fun w v hv => dall_any most l v w hv (by omega)
  have CB : Hid (∀ w v, In .i64 w v l → Calls Try.prog 65 #[.int .i64 most, v] w (TPost w (dAll most l))) := Lib.hid fun w v hv => rdall_any most l v w hv (by omega)
  have ho := len_dStp b s hl
  have hN := len_dNew most
  generalize dStp b s = D at *
  obtain ⟨o, t, f, e⟩ := D
  generalize dOk b = r at *
  generalize dNew most = N at *
  generalize dAll most l = T at *
  obtain ⟨x0, n0, z0⟩ := T
  dsimp only at ho
  have d1 : (f != f) = false := bne_self_eq_false f
  have d2 : (r != r) = false := bne_self_eq_false r
  have d3 : (e != e) = false := bne_self_eq_false e
  go_enter Try.func16, Try.ntmps16
  have hm := Own.nil w
  go_upto_region 5 with (first
    | (refine wpList_box_o hm rfl rfl rfl ?_; intro w1 g hm1; clear hm)
    | (refine wpList_run rfl (exec_loadcell' (off := 256) rfl rfl (hm1.row 0 rfl) one3 (getV1 hl)) ?_)
    | (refine wpList_load_all rfl rfl rfl (hm1.row 0 rfl) (aggV hl) ?_)
    | (go_at_call 58; have _t := hm1; refine (CS.out _).mono ?_; rintro x w2 ⟨⟨r2, rfl, hs2⟩, hb2⟩; obtain ⟨a2, c2, rfl⟩ := hs2.shape; have hm2 := hm1.call hb2; have HS2 := Lib.hid hs2.src; clear hm1 hs2)
    | (have _t := hm2; refine wpList_alloc_x hm2 rfl rfl zero70 ?_; intro hm3)
    | (have _t := hm3; refine wpList_store_x 0 hm3 rfl rfl rfl rfl rfl (aggV ho) (size_VV ho len_DS0) (V_one _) ?_; intro hm4; simp only [List.set] at hm4; have HA4 := Lib.hid (HS2.out.fresh (V DS0) 70 (V o)); generalize World.setRow _ _ (V o) = w4 at hm4 HA4 ⊢; generalize w2.heap.size = g4 at hm4 ⊢; clear hm2 hm3 HS2)
    | (refine wpList_load_all rfl rfl rfl (hm4.row 1 rfl) (aggV hl) ?_)
    | (go_at_call 59; have _t := hm4; refine (CR.out _).mono ?_; rintro x w5 ⟨⟨r5, rfl, hs5⟩, hb5⟩; obtain ⟨a5, c5, rfl⟩ := hs5.shape; have hm5 := hm4.call hb5; have HA5 := Lib.hid (HA4.out.below hb5); have HS5 := Lib.hid hs5.src; clear hm4 hs5 HA4)
    | (have _t := hm5; refine wpList_alloc_x hm5 rfl rfl zero70 ?_; intro hm6)
    | (have _t := hm6; refine wpList_store_x 0 hm6 rfl rfl rfl rfl rfl (aggV ho) (size_VV ho len_DS0) (V_one _) ?_; intro hm7; simp only [List.set] at hm7; have HA7 := Lib.hid (HA5.out.fresh (V DS0) 70 (V o)); have HB7 := Lib.hid (HS5.out.fresh (V DS0) 70 (V o)); generalize World.setRow _ _ (V o) = w7 at hm7 HA7 HB7 ⊢; generalize w5.heap.size = g7 at hm7 ⊢; clear hm5 hm6 HS5 HA5))
  refine wp_region_T (.rd 0 (.rd 1 (.rd 2 (.rd 3 (.rd 4 (.rd 5 (.rd 6 (.rd 7 (.rd 8 (.rd 9 (.rd 10 (.rd 11 (.rd 12 (.rd 13 (.rd 14 (.rd 15 (.rd 16 (.rd 17 (.rd 18 (.rd 19 (.rd 20 (.rd 21 (.rd 23 (.one 22 (.one 24 (.rd 25 (.rd 26 (.rd 27 (.rd 28 (.rd 30 (.one 29 (.one 31 (.rd 32 (.rd 33 (.done))))))))))))))))))))))))))))))))))) (fun W => Below w.heap.size w W ∧ RowIs W g7 (V o) ∧ RowIs W g4 (V o) ∧ RowIs W g (V b) ∧ Src W (.slice a2 t.length c2) (vs .u8 t) ∧ Src W (.slice a5 t.length c5) (vs .u8 t)) rfl (by kernel_rfl) rfl (by kernel_rfl) (fun _ _ d _ _ h => by cases d <;> exact h) ⟨(hm7.drawn (w7.drawn + 1)).below, (hm7.drawn (w7.drawn + 1)).row 0 rfl, (hm7.drawn (w7.drawn + 1)).row 1 rfl, (hm7.drawn (w7.drawn + 1)).row 2 rfl, HA7.out, HB7.out⟩ ?_
  have k0 := hm7.drawn (w7.drawn + 1)
  have HA0 : Hid (Src { w7 with drawn := w7.drawn + 1 } (.slice a2 t.length c2) (vs .u8 t)) := Lib.hid HA7.out
  have HB0 : Hid (Src { w7 with drawn := w7.drawn + 1 } (.slice a5 t.length c5) (vs .u8 t)) := Lib.hid HB7.out
  generalize ({ w7 with drawn := w7.drawn + 1 } : World) = wn at k0 HA0 HB0 ⊢
  clear hm7 HA7 HB7
  refine T_read rfl rfl (fun W hW => exec_load_all rfl rfl hW.2.2.1 (aggV ho)) ?_
  try simp only [Act.put, List.setIfInBounds_toArray, List.set_cons_zero, List.set_cons_succ]
  refine T_read rfl rfl (fun W hW => exec_load_all rfl rfl hW.2.1 (aggV ho)) ?_
  try simp only [Act.put, List.setIfInBounds_toArray, List.set_cons_zero, List.set_cons_succ]
  refine T_read rfl rfl (fun W hW => exec_neq70 rfl rfl rfl ho ho (r := false) (by rw [dsEq_self]; rfl)) ?_
  try simp only [Act.put, List.setIfInBounds_toArray, List.set_cons_zero, List.set_cons_succ]
  refine T_read rfl rfl (fun W hW => by go_simp; rfl) ?_
  try simp only [Act.put, List.setIfInBounds_toArray, List.set_cons_zero, List.set_cons_succ]
  refine T_read rfl rfl (fun W hW => by go_simp; rfl) ?_
  try simp only [Act.put, List.setIfInBounds_toArray, List.set_cons_zero, List.set_cons_succ]
  refine T_read rfl rfl (fun W hW => exec_tostr_s (l := t) (v := .slice a2 t.length c2) rfl rfl hW.2.2.2.2.1) ?_
  try simp only [Act.put, List.setIfInBounds_toArray, List.set_cons_zero, List.set_cons_succ]
  refine T_read rfl rfl (fun W hW => by go_simp; rfl) ?_
  try simp only [Act.put, List.setIfInBounds_toArray, List.set_cons_zero, List.set_cons_succ]
  refine T_read rfl rfl (fun W hW => exec_tostr_s (l := t) (v := .slice a5 t.length c5) rfl rfl hW.2.2.2.2.2) ?_
  try simp only [Act.put, List.setIfInBounds_toArray, List.set_cons_zero, List.set_cons_succ]
  refine T_read rfl rfl (fun W hW => sdm_neqstr rfl rfl rfl (b := false) (by simp)) ?_
  try simp only [Act.put, List.setIfInBounds_toArray, List.set_cons_zero, List.set_cons_succ]
  refine T_read rfl rfl (fun W hW => by go_simp; rfl) ?_
  try simp only [Act.put, List.setIfInBounds_toArray, List.set_cons_zero, List.set_cons_succ]
  refine T_read rfl rfl (fun W hW => by go_simp; rfl) ?_
  try simp only [Act.put, List.setIfInBounds_toArray, List.set_cons_zero, List.set_cons_succ]
  refine T_read rfl rfl (fun W hW => by go_simp; rfl) ?_
  try simp only [Act.put, List.setIfInBounds_toArray, List.set_cons_zero, List.set_cons_succ]
  refine T_read rfl rfl (fun W hW => by go_simp; rfl) ?_
  try simp only [Act.put, List.setIfInBounds_toArray, List.set_cons_zero, List.set_cons_succ]
  refine T_read rfl rfl (fun W hW => by go_simp; rfl) ?_
  try simp only [Act.put, List.setIfInBounds_toArray, List.set_cons_zero, List.set_cons_succ]
  refine T_read rfl rfl (fun W hW => by go_simp; rfl) ?_
  try simp only [Act.put, List.setIfInBounds_toArray, List.set_cons_zero, List.set_cons_succ]
  refine T_read rfl rfl (fun W hW => by go_simp; rfl) ?_
  try simp only [Act.put, List.setIfInBounds_toArray, List.set_cons_zero, List.set_cons_succ]
  refine T_read rfl rfl (fun W hW => by go_simp; rfl) ?_
  try simp only [Act.put, List.setIfInBounds_toArray, List.set_cons_zero, List.set_cons_succ]
  refine T_read rfl rfl (fun W hW => by go_simp; rfl) ?_
  try simp only [Act.put, List.setIfInBounds_toArray, List.set_cons_zero, List.set_cons_succ]
  refine T_read rfl rfl (fun W hW => by go_simp; rfl) ?_
  try simp only [Act.put, List.setIfInBounds_toArray, List.set_cons_zero, List.set_cons_succ]
  refine T_read rfl rfl (fun W hW => by go_simp; rfl) ?_
  try simp only [Act.put, List.setIfInBounds_toArray, List.set_cons_zero, List.set_cons_succ]
  refine T_read rfl rfl (fun W hW => by go_simp; rfl) ?_
  try simp only [Act.put, List.setIfInBounds_toArray, List.set_cons_zero, List.set_cons_succ]
  refine T_read rfl rfl (fun W hW => exec_load_all rfl rfl hW.2.2.2.1 (aggV hl)) ?_
  try simp only [Act.put, List.setIfInBounds_toArray, List.set_cons_zero, List.set_cons_succ]
  refine T_read rfl rfl (fun W hW => exec_load_all rfl rfl hW.2.2.2.1 (aggV hl)) ?_
  try simp only [Act.put, List.setIfInBounds_toArray, List.set_cons_zero, List.set_cons_succ]
  refine T_one ?_
  refine oneT_do rfl rfl (fun K hK => ?_)
  go_simp
  refine (CV.out _).mono ?_
  rintro x v1 ⟨rfl, hb1⟩
  have k1 := k0.call hb1
  have HA1 := Lib.hid (HA0.out.below hb1)
  have HB1 := Lib.hid (HB0.out.below hb1)
  clear k0 HA0 HB0
  refine hK _ _ ⟨_, fun _ h => h, ⟨k1.below, k1.row 0 rfl, k1.row 1 rfl, k1.row 2 rfl, HA1.out, HB1.out⟩, ?_⟩
  clear hK K
  try simp only [Act.put, List.setIfInBounds_toArray, List.set_cons_zero, List.set_cons_succ]
  refine T_one ?_
  refine oneT_do rfl rfl (fun K hK => ?_)
  go_simp
  refine (CW.out _).mono ?_
  rintro x v2 ⟨rfl, hb2⟩
  have k2 := k1.call hb2
  have HA2 := Lib.hid (HA1.out.below hb2)
  have HB2 := Lib.hid (HB1.out.below hb2)
  clear k1 HA1 HB1
  refine hK _ _ ⟨_, fun _ h => h, ⟨k2.below, k2.row 0 rfl, k2.row 1 rfl, k2.row 2 rfl, HA2.out, HB2.out⟩, ?_⟩
  clear hK K
  try simp only [Act.put, List.setIfInBounds_toArray, List.set_cons_zero, List.set_cons_succ]
  refine T_read rfl rfl (fun W hW => by go_simp; rfl) ?_
  try simp only [Act.put, List.setIfInBounds_toArray, List.set_cons_zero, List.set_cons_succ]
  refine T_read rfl rfl (fun W hW => by go_simp; rfl) ?_
  try simp only [Act.put, List.setIfInBounds_toArray, List.set_cons_zero, List.set_cons_succ]
  refine T_read rfl rfl (fun W hW => by go_simp; rfl) ?_
  try simp only [Act.put, List.setIfInBounds_toArray, List.set_cons_zero, List.set_cons_succ]
  refine T_read rfl rfl (fun W hW => by go_simp; rfl) ?_
  try simp only [Act.put, List.setIfInBounds_toArray, List.set_cons_zero, List.set_cons_succ]
  refine T_read rfl rfl (fun W hW => by go_simp; rfl) ?_
  try simp only [Act.put, List.setIfInBounds_toArray, List.set_cons_zero, List.set_cons_succ]
  refine T_one ?_
  refine oneT_do rfl rfl (fun K hK => ?_)
  go_simp
  refine (CN.out _).mono ?_
  rintro x v3 ⟨rfl, hb3⟩
  have k3 := k2.call hb3
  have HA3 := Lib.hid (HA2.out.below hb3)
  have HB3 := Lib.hid (HB2.out.below hb3)
  clear k2 HA2 HB2
  refine hK _ _ ⟨_, fun _ h => h, ⟨k3.below, k3.row 0 rfl, k3.row 1 rfl, k3.row 2 rfl, HA3.out, HB3.out⟩, ?_⟩
  clear hK K
  try simp only [Act.put, List.setIfInBounds_toArray, List.set_cons_zero, List.set_cons_succ]
  refine T_one ?_
  refine oneT_do rfl rfl (fun K hK => ?_)
  go_simp
  refine (CM.out _).mono ?_
  rintro x v4 ⟨rfl, hb4⟩
  have k4 := k3.call hb4
  have HA4 := Lib.hid (HA3.out.below hb4)
  have HB4 := Lib.hid (HB3.out.below hb4)
  clear k3 HA3 HB3
  refine hK _ _ ⟨_, fun _ h => h, ⟨k4.below, k4.row 0 rfl, k4.row 1 rfl, k4.row 2 rfl, HA4.out, HB4.out⟩, ?_⟩
  clear hK K
  try simp only [Act.put, List.setIfInBounds_toArray, List.set_cons_zero, List.set_cons_succ]
  refine T_read rfl rfl (fun W hW => exec_neq70 rfl rfl rfl hN hN (r := false) (by rw [dsEq_self]; rfl)) ?_
  try simp only [Act.put, List.setIfInBounds_toArray, List.set_cons_zero, List.set_cons_succ]
  refine T_read rfl rfl (fun W hW => by go_simp; rfl) ?_
  try simp only [Act.put, List.setIfInBounds_toArray, List.set_cons_zero, List.set_cons_succ]
  refine T_done ?_
  have hm8 := k4
  clear k4 HA4 HB4
  go_simp
  go_wp2_with (first
    | (go_at_call 64; have _t := hm8; refine (CA.out _ _ (HV.out.below hm8.below)).mono ?_; rintro x w9 ⟨⟨r9, rfl, hq9⟩, hb9⟩; obtain ⟨a9, c9, rfl⟩ := owns_shape0 hq9; have hm9 := hm8.callSl hb9 (by rw [length_vs]; exact hq9); clear hm8 hq9)
    | (go_at_call 65; have _t := hm9; refine (CB.out _ _ (HV.out.below hm9.below)).mono ?_; rintro x w10 ⟨⟨r10, rfl, hq10⟩, hb10⟩; obtain ⟨a10, c10, rfl⟩ := owns_shape0 hq10; have hm10 := hm9.callSl hb10 (by rw [length_vs]; exact hq10); clear hm9 hq10)
    | (refine wpList_run rfl (exec_tostr_s (v := .slice a9 x0.length c9) (l := x0) rfl rfl (Src.of_owned (hm10.get 1 rfl))) ?_)
    | (refine wpList_run rfl (exec_tostr_s (v := .slice a10 x0.length c10) (l := x0) rfl rfl (Src.of_owned (hm10.get 0 rfl))) ?_)
    | (refine wpList_run rfl (exec_eqlstr rfl rfl rfl (b := true) (beq_self_eq_true _)) ?_)
    | (go_at_call 57; have _t := hm10; refine (wakes16 _).mono ?_; rintro x w11 ⟨rfl, hb11⟩; have hm11 := hm10.call hb11; clear hm10))
  go_ret
  exact ⟨rfl, hm11.below⟩
set_option maxRecDepth 100000 in
set_option maxHeartbeats 8000000 in
theorem sdm_bd (b : DS) (s most : Int) (l : List Int) (v : Value) (w : World) (hl : b.l.length = 256) (hb : Bytes b.l) (hv : In .i64 w v l) (p3 : ¬ (300 : Int) < l.length) (p1 : 65536 < b.left) (p2 : 65536 < most) : Calls Try.prog 16 #[.agg (V b), .int .i64 s, .int .i64 most, v] w fun e w' => e = .returned (.bool true) ∧ Below w.heap.size w w' := by
  obtain ⟨ad, cp, rfl, hc⟩ := hv
  have HV : Hid (In .i64 w (.slice ad l.length cp) l) := Lib.hid ⟨ad, cp, rfl, hc⟩
  clear hc
  have q5 : decide ((300 : Int) < l.length) = false := decide_eq_false p3
  have q1 : decide (3000 < b.left) = true := decide_eq_true (by omega)
  have q2 : decide (b.left ≤ 65536) = false := decide_eq_false (by omega)
  have q3 : decide (3000 < most) = true := decide_eq_true (by omega)
  have q4 : decide (most ≤ 65536) = false := decide_eq_false (by omega)
  have CS : Hid (∀ w, Calls Try.prog 58 #[.agg (V b), .int .i64 s] w (DPost w (dStp b s))) := Lib.hid fun w => dstep_any b s w hl hb
  have CR : Hid (∀ w, Calls Try.prog 59 #[.agg (V b), .int .i64 s] w (DPost w (dStp b s))) := Lib.hid fun w => rdstep_any b s w hl hb
  have CV : Hid (∀ w, Calls Try.prog 60 #[.agg (V b)] w fun e w' => (e = .returned (.bool (dOk b))) ∧ Below w.heap.size w w') := Lib.hid fun w => dvalid_any b w hl hb
  have CW : Hid (∀ w, Calls Try.prog 61 #[.agg (V b)] w fun e w' => (e = .returned (.bool (dOk b))) ∧ Below w.heap.size w w') := Lib.hid fun w => rdvalid_any b w hl hb
  have CN : Hid (∀ w, Calls Try.prog 62 #[.int .i64 most] w fun e w' => (e = .returned (.agg (V (dNew most)))) ∧ Below w.heap.size w w') := Lib.hid fun w => dnew_any most w
  have CM : Hid (∀ w, Calls Try.prog 63 #[.int .i64 most] w fun e w' => (e = .returned (.agg (V (dNew most)))) ∧ Below w.heap.size w w') := Lib.hid fun w => rdnew_any most w
  have CA : Hid (∀ w v, In .i64 w v l → Calls Try.prog 64 #[.int .i64 most, v] w (TPost w (dAll most l))) := Lib.hid fun w v hv => dall_any most l v w hv (by omega)
  have CB : Hid (∀ w v, In .i64 w v l → Calls Try.prog 65 #[.int .i64 most, v] w (TPost w (dAll most l))) := Lib.hid fun w v hv => rdall_any most l v w hv (by omega)
  have ho := len_dStp b s hl
  have hN := len_dNew most
  generalize dStp b s = D at *
  obtain ⟨o, t, f, e⟩ := D
  generalize dOk b = r at *
  generalize dNew most = N at *
  generalize dAll most l = T at *
  obtain ⟨x0, n0, z0⟩ := T
  dsimp only at ho
  have d1 : (f != f) = false := bne_self_eq_false f
  have d2 : (r != r) = false := bne_self_eq_false r
  have d3 : (e != e) = false := bne_self_eq_false e
  go_enter Try.func16, Try.ntmps16
  have hm := Own.nil w
  go_upto_region 5 with (first
    | (refine wpList_box_o hm rfl rfl rfl ?_; intro w1 g hm1; clear hm)
    | (refine wpList_run rfl (exec_loadcell' (off := 256) rfl rfl (hm1.row 0 rfl) one3 (getV1 hl)) ?_)
    | (refine wpList_load_all rfl rfl rfl (hm1.row 0 rfl) (aggV hl) ?_)
    | (go_at_call 58; have _t := hm1; refine (CS.out _).mono ?_; rintro x w2 ⟨⟨r2, rfl, hs2⟩, hb2⟩; obtain ⟨a2, c2, rfl⟩ := hs2.shape; have hm2 := hm1.call hb2; have HS2 := Lib.hid hs2.src; clear hm1 hs2)
    | (have _t := hm2; refine wpList_alloc_x hm2 rfl rfl zero70 ?_; intro hm3)
    | (have _t := hm3; refine wpList_store_x 0 hm3 rfl rfl rfl rfl rfl (aggV ho) (size_VV ho len_DS0) (V_one _) ?_; intro hm4; simp only [List.set] at hm4; have HA4 := Lib.hid (HS2.out.fresh (V DS0) 70 (V o)); generalize World.setRow _ _ (V o) = w4 at hm4 HA4 ⊢; generalize w2.heap.size = g4 at hm4 ⊢; clear hm2 hm3 HS2)
    | (refine wpList_load_all rfl rfl rfl (hm4.row 1 rfl) (aggV hl) ?_)
    | (go_at_call 59; have _t := hm4; refine (CR.out _).mono ?_; rintro x w5 ⟨⟨r5, rfl, hs5⟩, hb5⟩; obtain ⟨a5, c5, rfl⟩ := hs5.shape; have hm5 := hm4.call hb5; have HA5 := Lib.hid (HA4.out.below hb5); have HS5 := Lib.hid hs5.src; clear hm4 hs5 HA4)
    | (have _t := hm5; refine wpList_alloc_x hm5 rfl rfl zero70 ?_; intro hm6)
    | (have _t := hm6; refine wpList_store_x 0 hm6 rfl rfl rfl rfl rfl (aggV ho) (size_VV ho len_DS0) (V_one _) ?_; intro hm7; simp only [List.set] at hm7; have HA7 := Lib.hid (HA5.out.fresh (V DS0) 70 (V o)); have HB7 := Lib.hid (HS5.out.fresh (V DS0) 70 (V o)); generalize World.setRow _ _ (V o) = w7 at hm7 HA7 HB7 ⊢; generalize w5.heap.size = g7 at hm7 ⊢; clear hm5 hm6 HS5 HA5))
  refine wp_region_T (.rd 0 (.rd 1 (.rd 2 (.rd 3 (.rd 4 (.rd 5 (.rd 6 (.rd 7 (.rd 8 (.rd 9 (.rd 10 (.rd 11 (.rd 12 (.rd 13 (.rd 14 (.rd 15 (.rd 16 (.rd 17 (.rd 18 (.rd 19 (.rd 20 (.rd 21 (.rd 23 (.one 22 (.one 24 (.rd 25 (.rd 26 (.rd 27 (.rd 28 (.rd 30 (.one 29 (.one 31 (.rd 32 (.rd 33 (.done))))))))))))))))))))))))))))))))))) (fun W => Below w.heap.size w W ∧ RowIs W g7 (V o) ∧ RowIs W g4 (V o) ∧ RowIs W g (V b) ∧ Src W (.slice a2 t.length c2) (vs .u8 t) ∧ Src W (.slice a5 t.length c5) (vs .u8 t)) rfl (by kernel_rfl) rfl (by kernel_rfl) (fun _ _ d _ _ h => by cases d <;> exact h) ⟨(hm7.drawn (w7.drawn + 1)).below, (hm7.drawn (w7.drawn + 1)).row 0 rfl, (hm7.drawn (w7.drawn + 1)).row 1 rfl, (hm7.drawn (w7.drawn + 1)).row 2 rfl, HA7.out, HB7.out⟩ ?_
  have k0 := hm7.drawn (w7.drawn + 1)
  have HA0 : Hid (Src { w7 with drawn := w7.drawn + 1 } (.slice a2 t.length c2) (vs .u8 t)) := Lib.hid HA7.out
  have HB0 : Hid (Src { w7 with drawn := w7.drawn + 1 } (.slice a5 t.length c5) (vs .u8 t)) := Lib.hid HB7.out
  generalize ({ w7 with drawn := w7.drawn + 1 } : World) = wn at k0 HA0 HB0 ⊢
  clear hm7 HA7 HB7
  refine T_read rfl rfl (fun W hW => exec_load_all rfl rfl hW.2.2.1 (aggV ho)) ?_
  try simp only [Act.put, List.setIfInBounds_toArray, List.set_cons_zero, List.set_cons_succ]
  refine T_read rfl rfl (fun W hW => exec_load_all rfl rfl hW.2.1 (aggV ho)) ?_
  try simp only [Act.put, List.setIfInBounds_toArray, List.set_cons_zero, List.set_cons_succ]
  refine T_read rfl rfl (fun W hW => exec_neq70 rfl rfl rfl ho ho (r := false) (by rw [dsEq_self]; rfl)) ?_
  try simp only [Act.put, List.setIfInBounds_toArray, List.set_cons_zero, List.set_cons_succ]
  refine T_read rfl rfl (fun W hW => by go_simp; rfl) ?_
  try simp only [Act.put, List.setIfInBounds_toArray, List.set_cons_zero, List.set_cons_succ]
  refine T_read rfl rfl (fun W hW => by go_simp; rfl) ?_
  try simp only [Act.put, List.setIfInBounds_toArray, List.set_cons_zero, List.set_cons_succ]
  refine T_read rfl rfl (fun W hW => exec_tostr_s (l := t) (v := .slice a2 t.length c2) rfl rfl hW.2.2.2.2.1) ?_
  try simp only [Act.put, List.setIfInBounds_toArray, List.set_cons_zero, List.set_cons_succ]
  refine T_read rfl rfl (fun W hW => by go_simp; rfl) ?_
  try simp only [Act.put, List.setIfInBounds_toArray, List.set_cons_zero, List.set_cons_succ]
  refine T_read rfl rfl (fun W hW => exec_tostr_s (l := t) (v := .slice a5 t.length c5) rfl rfl hW.2.2.2.2.2) ?_
  try simp only [Act.put, List.setIfInBounds_toArray, List.set_cons_zero, List.set_cons_succ]
  refine T_read rfl rfl (fun W hW => sdm_neqstr rfl rfl rfl (b := false) (by simp)) ?_
  try simp only [Act.put, List.setIfInBounds_toArray, List.set_cons_zero, List.set_cons_succ]
  refine T_read rfl rfl (fun W hW => by go_simp; rfl) ?_
  try simp only [Act.put, List.setIfInBounds_toArray, List.set_cons_zero, List.set_cons_succ]
  refine T_read rfl rfl (fun W hW => by go_simp; rfl) ?_
  try simp only [Act.put, List.setIfInBounds_toArray, List.set_cons_zero, List.set_cons_succ]
  refine T_read rfl rfl (fun W hW => by go_simp; rfl) ?_
  try simp only [Act.put, List.setIfInBounds_toArray, List.set_cons_zero, List.set_cons_succ]
  refine T_read rfl rfl (fun W hW => by go_simp; rfl) ?_
  try simp only [Act.put, List.setIfInBounds_toArray, List.set_cons_zero, List.set_cons_succ]
  refine T_read rfl rfl (fun W hW => by go_simp; rfl) ?_
  try simp only [Act.put, List.setIfInBounds_toArray, List.set_cons_zero, List.set_cons_succ]
  refine T_read rfl rfl (fun W hW => by go_simp; rfl) ?_
  try simp only [Act.put, List.setIfInBounds_toArray, List.set_cons_zero, List.set_cons_succ]
  refine T_read rfl rfl (fun W hW => by go_simp; rfl) ?_
  try simp only [Act.put, List.setIfInBounds_toArray, List.set_cons_zero, List.set_cons_succ]
  refine T_read rfl rfl (fun W hW => by go_simp; rfl) ?_
  try simp only [Act.put, List.setIfInBounds_toArray, List.set_cons_zero, List.set_cons_succ]
  refine T_read rfl rfl (fun W hW => by go_simp; rfl) ?_
  try simp only [Act.put, List.setIfInBounds_toArray, List.set_cons_zero, List.set_cons_succ]
  refine T_read rfl rfl (fun W hW => by go_simp; rfl) ?_
  try simp only [Act.put, List.setIfInBounds_toArray, List.set_cons_zero, List.set_cons_succ]
  refine T_read rfl rfl (fun W hW => by go_simp; rfl) ?_
  try simp only [Act.put, List.setIfInBounds_toArray, List.set_cons_zero, List.set_cons_succ]
  refine T_read rfl rfl (fun W hW => by go_simp; rfl) ?_
  try simp only [Act.put, List.setIfInBounds_toArray, List.set_cons_zero, List.set_cons_succ]
  refine T_read rfl rfl (fun W hW => exec_load_all rfl rfl hW.2.2.2.1 (aggV hl)) ?_
  try simp only [Act.put, List.setIfInBounds_toArray, List.set_cons_zero, List.set_cons_succ]
  refine T_read rfl rfl (fun W hW => exec_load_all rfl rfl hW.2.2.2.1 (aggV hl)) ?_
  try simp only [Act.put, List.setIfInBounds_toArray, List.set_cons_zero, List.set_cons_succ]
  refine T_one ?_
  refine oneT_do rfl rfl (fun K hK => ?_)
  go_simp
  refine (CV.out _).mono ?_
  rintro x v1 ⟨rfl, hb1⟩
  have k1 := k0.call hb1
  have HA1 := Lib.hid (HA0.out.below hb1)
  have HB1 := Lib.hid (HB0.out.below hb1)
  clear k0 HA0 HB0
  refine hK _ _ ⟨_, fun _ h => h, ⟨k1.below, k1.row 0 rfl, k1.row 1 rfl, k1.row 2 rfl, HA1.out, HB1.out⟩, ?_⟩
  clear hK K
  try simp only [Act.put, List.setIfInBounds_toArray, List.set_cons_zero, List.set_cons_succ]
  refine T_one ?_
  refine oneT_do rfl rfl (fun K hK => ?_)
  go_simp
  refine (CW.out _).mono ?_
  rintro x v2 ⟨rfl, hb2⟩
  have k2 := k1.call hb2
  have HA2 := Lib.hid (HA1.out.below hb2)
  have HB2 := Lib.hid (HB1.out.below hb2)
  clear k1 HA1 HB1
  refine hK _ _ ⟨_, fun _ h => h, ⟨k2.below, k2.row 0 rfl, k2.row 1 rfl, k2.row 2 rfl, HA2.out, HB2.out⟩, ?_⟩
  clear hK K
  try simp only [Act.put, List.setIfInBounds_toArray, List.set_cons_zero, List.set_cons_succ]
  refine T_read rfl rfl (fun W hW => by go_simp; rfl) ?_
  try simp only [Act.put, List.setIfInBounds_toArray, List.set_cons_zero, List.set_cons_succ]
  refine T_read rfl rfl (fun W hW => by go_simp; rfl) ?_
  try simp only [Act.put, List.setIfInBounds_toArray, List.set_cons_zero, List.set_cons_succ]
  refine T_read rfl rfl (fun W hW => by go_simp; rfl) ?_
  try simp only [Act.put, List.setIfInBounds_toArray, List.set_cons_zero, List.set_cons_succ]
  refine T_read rfl rfl (fun W hW => by go_simp; rfl) ?_
  try simp only [Act.put, List.setIfInBounds_toArray, List.set_cons_zero, List.set_cons_succ]
  refine T_read rfl rfl (fun W hW => by go_simp; rfl) ?_
  try simp only [Act.put, List.setIfInBounds_toArray, List.set_cons_zero, List.set_cons_succ]
  refine T_one ?_
  refine oneT_do rfl rfl (fun K hK => ?_)
  go_simp
  refine (CN.out _).mono ?_
  rintro x v3 ⟨rfl, hb3⟩
  have k3 := k2.call hb3
  have HA3 := Lib.hid (HA2.out.below hb3)
  have HB3 := Lib.hid (HB2.out.below hb3)
  clear k2 HA2 HB2
  refine hK _ _ ⟨_, fun _ h => h, ⟨k3.below, k3.row 0 rfl, k3.row 1 rfl, k3.row 2 rfl, HA3.out, HB3.out⟩, ?_⟩
  clear hK K
  try simp only [Act.put, List.setIfInBounds_toArray, List.set_cons_zero, List.set_cons_succ]
  refine T_one ?_
  refine oneT_do rfl rfl (fun K hK => ?_)
  go_simp
  refine (CM.out _).mono ?_
  rintro x v4 ⟨rfl, hb4⟩
  have k4 := k3.call hb4
  have HA4 := Lib.hid (HA3.out.below hb4)
  have HB4 := Lib.hid (HB3.out.below hb4)
  clear k3 HA3 HB3
  refine hK _ _ ⟨_, fun _ h => h, ⟨k4.below, k4.row 0 rfl, k4.row 1 rfl, k4.row 2 rfl, HA4.out, HB4.out⟩, ?_⟩
  clear hK K
  try simp only [Act.put, List.setIfInBounds_toArray, List.set_cons_zero, List.set_cons_succ]
  refine T_read rfl rfl (fun W hW => exec_neq70 rfl rfl rfl hN hN (r := false) (by rw [dsEq_self]; rfl)) ?_
  try simp only [Act.put, List.setIfInBounds_toArray, List.set_cons_zero, List.set_cons_succ]
  refine T_read rfl rfl (fun W hW => by go_simp; rfl) ?_
  try simp only [Act.put, List.setIfInBounds_toArray, List.set_cons_zero, List.set_cons_succ]
  refine T_done ?_
  have hm8 := k4
  clear k4 HA4 HB4
  go_simp
  go_wp2_with (first
    | (go_at_call 64; have _t := hm8; refine (CA.out _ _ (HV.out.below hm8.below)).mono ?_; rintro x w9 ⟨⟨r9, rfl, hq9⟩, hb9⟩; obtain ⟨a9, c9, rfl⟩ := owns_shape0 hq9; have hm9 := hm8.callSl hb9 (by rw [length_vs]; exact hq9); clear hm8 hq9)
    | (go_at_call 65; have _t := hm9; refine (CB.out _ _ (HV.out.below hm9.below)).mono ?_; rintro x w10 ⟨⟨r10, rfl, hq10⟩, hb10⟩; obtain ⟨a10, c10, rfl⟩ := owns_shape0 hq10; have hm10 := hm9.callSl hb10 (by rw [length_vs]; exact hq10); clear hm9 hq10)
    | (refine wpList_run rfl (exec_tostr_s (v := .slice a9 x0.length c9) (l := x0) rfl rfl (Src.of_owned (hm10.get 1 rfl))) ?_)
    | (refine wpList_run rfl (exec_tostr_s (v := .slice a10 x0.length c10) (l := x0) rfl rfl (Src.of_owned (hm10.get 0 rfl))) ?_)
    | (refine wpList_run rfl (exec_eqlstr rfl rfl rfl (b := true) (beq_self_eq_true _)) ?_)
    | (go_at_call 57; have _t := hm10; refine (wakes16 _).mono ?_; rintro x w11 ⟨rfl, hb11⟩; have hm11 := hm10.call hb11; clear hm10))
  go_ret
  exact ⟨rfl, hm11.below⟩
theorem sdm16 (b : DS) (s most : Int) (l : List Int) (v : Value) (w : World) (hl : b.l.length = 256) (hb : Bytes b.l) (hv : In .i64 w v l) : Calls Try.prog 16 #[.agg (V b), .int .i64 s, .int .i64 most, v] w fun e w' => e = .returned (.bool true) ∧ Below w.heap.size w w' := by
  by_cases h1 : 3000 < b.left ∧ b.left ≤ 65536
  · exact sdm_we b s most l v w hl hv h1.1 h1.2
  by_cases h2 : 3000 < most ∧ most ≤ 65536
  · by_cases h3 : 3000 < b.left
    · exact sdm_wbf b s most l v w hl hv (by omega) h2.1 h2.2
    · exact sdm_waf b s most l v w hl hv h3 h2.1 h2.2
  by_cases h3 : (300 : Int) < l.length
  · by_cases h4 : 3000 < b.left
    · by_cases h5 : 3000 < most
      · exact sdm_wbdg b s most l v w hl hv (by omega) (by omega) h3
      · exact sdm_wbcg b s most l v w hl hv (by omega) h5 h3
    · by_cases h5 : 3000 < most
      · exact sdm_wadg b s most l v w hl hv h4 (by omega) h3
      · exact sdm_wacg b s most l v w hl hv h4 h5 h3
  by_cases h4 : 3000 < b.left
  · by_cases h5 : 3000 < most
    · exact sdm_bd b s most l v w hl hb hv h3 (by omega) (by omega)
    · exact sdm_bc b s most l v w hl hb hv h3 (by omega) h5
  · by_cases h5 : 3000 < most
    · exact sdm_ad b s most l v w hl hb hv h3 h4 (by omega)
    · exact sdm_ac b s most l v w hl hb hv h3 h4 h5
end Go.Proofs.Ytaccjnekonmkoaa
