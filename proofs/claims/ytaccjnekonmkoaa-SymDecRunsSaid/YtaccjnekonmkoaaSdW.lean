/-
  The walk of the laws' own examples (winepresslaw16.wakes): it returns true.
-/
import Derived.Test.YtaccjnekonmkoaaSdH
import Derived.Test.YtaccjnekonmkoaaSdE
namespace Go.Proofs.Ytaccjnekonmkoaa
open Go Go.RowKit

theorem WL.doit {P : Program} {ops : Array Oper} {rest : List Oper} {o : Oper} {a : Act} {w : World} {Q : Exit → Act → World → Prop} (hg : Region.wanted o (yielded ops a.tmps) = true) (h : ∀ K : Act → World → Prop, (∀ a w, WL P ops Q rest a w → K a w) → o.wp P a w K Q) : WL P ops Q (o :: rest) a w :=
  ⟨wpList_do hg fun K hK => h K fun a w hl => hK a w hl.out⟩
theorem exec_tostr_s {w : World} {o : Oper} {a : Act} {x : Operand} (ho : o.op = .convert 24 9 x) {l : List Int} {v : Value} (hx : a.eval x = v) (hv : Src w v (vs .u8 l)) : (execOp a.eval o).run Try.prog w = .ok (.value (.string (str l))) w := exec_tostr_src ho Try.underlying24 Try.underlying5 Try.underlying9 hx hv
def WB : DS := ⟨O2, 3, 0, 0, false⟩
theorem len_WB : WB.l.length = 256 := by simp only [WB]; exact vl_O2.len
theorem wt0 : dAll 4 [3, 0, 2, 3, 257] = ([2, 2, 0, 1], 5, 0) := by kernel_rfl
theorem wt0a : (dAll 4 [3, 0, 2, 3, 257]).1 = [2, 2, 0, 1] := by rw [wt0]
theorem wt0b : (((dAll 4 [3, 0, 2, 3, 257]).2.1 : Nat) : Int) = 5 := by rw [wt0]; rfl
theorem wt0c : (dAll 4 [3, 0, 2, 3, 257]).2.2 = 0 := by rw [wt0]
theorem wt1 : dAll 1 [0, 257, 9] = ([0], 2, 0) := by kernel_rfl
theorem wt1a : (dAll 1 [0, 257, 9]).1 = [0] := by rw [wt1]
theorem wt1b : (((dAll 1 [0, 257, 9]).2.1 : Nat) : Int) = 2 := by rw [wt1]; rfl
theorem wt1c : (dAll 1 [0, 257, 9]).2.2 = 0 := by rw [wt1]
theorem wt2 : dAll 1 [1] = ([], 0, 160) := by kernel_rfl
theorem wt2a : (dAll 1 [1]).1 = [] := by rw [wt2]
theorem wt2b : (((dAll 1 [1]).2.1 : Nat) : Int) = 0 := by rw [wt2]; rfl
theorem wt2c : (dAll 1 [1]).2.2 = 160 := by rw [wt2]
theorem wt3 : dAll 0 [257] = ([], 0, 2) := by kernel_rfl
theorem wt3a : (dAll 0 [257]).1 = [] := by rw [wt3]
theorem wt3b : (((dAll 0 [257]).2.1 : Nat) : Int) = 0 := by rw [wt3]; rfl
theorem wt3c : (dAll 0 [257]).2.2 = 2 := by rw [wt3]
theorem wt4 : dAll 3 [258] = ([], 0, 2) := by kernel_rfl
theorem wt4a : (dAll 3 [258]).1 = [] := by rw [wt4]
theorem wt4b : (((dAll 3 [258]).2.1 : Nat) : Int) = 0 := by rw [wt4]; rfl
theorem wt4c : (dAll 3 [258]).2.2 = 2 := by rw [wt4]
theorem wt5 : dAll 3 [0] = ([], 0, 160) := by kernel_rfl
theorem wt5a : (dAll 3 [0]).1 = [] := by rw [wt5]
theorem wt5b : (((dAll 3 [0]).2.1 : Nat) : Int) = 0 := by rw [wt5]; rfl
theorem wt5c : (dAll 3 [0]).2.2 = 160 := by rw [wt5]
theorem ws1 : dStp (dNew 4) 3 = (WB, [2], false, 0) := by kernel_rfl
theorem ws1a : (dStp (dNew 4) 3).1 = WB := by rw [ws1]
theorem ws1b : (dStp (dNew 4) 3).2.1 = [2] := by rw [ws1]
theorem ws1c : (dStp (dNew 4) 3).2.2.1 = false := by rw [ws1]
theorem ws1d : (dStp (dNew 4) 3).2.2.2 = 0 := by rw [ws1]
theorem ws2 : dStp DS0 3 = (DS0, [], false, 2) := by kernel_rfl
theorem ws2a : (dStp DS0 3).1 = DS0 := by rw [ws2]
theorem ws2c : (dStp DS0 3).2.2.1 = false := by rw [ws2]
theorem ws2d : (dStp DS0 3).2.2.2 = 2 := by rw [ws2]
theorem wok1 : dOk WB = true := by kernel_rfl
theorem wok0 : dOk DS0 = false := by kernel_rfl
theorem wnew0 : dNew 0 = DS0 := rfl
theorem bytes0 : Bytes DS0.l := byt4 _ (by decide +kernel)
theorem bytesN (m : Int) : Bytes (dNew m).l := by
  rw [dNew]; split
  · exact vl_new.bytes
  · exact bytes0
theorem wstra : ((str [2, 2, 0, 1]).toList == (ByteArray.mk #[2, 2, 0, 1]).toList) = true := by decide +kernel
theorem wstrb : ((str [0]).toList == (ByteArray.mk #[0]).toList) = true := by decide +kernel
theorem wstrc : ((str [2]).toList == (ByteArray.mk #[2]).toList) = true := by decide +kernel
set_option maxRecDepth 100000 in
set_option maxHeartbeats 8000000 in
theorem wakes16 (w : World) : Calls Try.prog 57 #[] w fun e w' => e = .returned (.bool true) ∧ Below w.heap.size w w' := by
  have hO := vl_O2.len
  have hWB := len_WB
  have hD0 := len_DS0
  go_enter Try.func57, Try.ntmps57
  have hm0 := Own.nil w
  go_upto_region 9 with (first
    | (go_at_call 64; have _t := hm0; have hn0 := hm0.alloc (vs .i64 [3, 0, 2, 3, 257]).toArray 3; refine (dall_any 4 [3, 0, 2, 3, 257] _ _ (in64 (l := [3, 0, 2, 3, 257]) (hn0.row 0 rfl) 5) (by decide)).mono ?_; rintro x w1 ⟨⟨r1, rfl, ho1⟩, hb1⟩; rw [wt0b, wt0c]; rw [wt0a] at ho1; obtain ⟨a1, c1, rfl⟩ := owns_shape0 ho1; have hm1 := (hn0.callSl hb1 (by rw [length_vs]; exact ho1)).dropRow; clear hm0 hn0 ho1)
    | (go_at_call 64; have _t := hm1; have hn1 := hm1.alloc (vs .i64 [0, 257, 9]).toArray 3; refine (dall_any 1 [0, 257, 9] _ _ (in64 (l := [0, 257, 9]) (hn1.row 0 rfl) 3) (by decide)).mono ?_; rintro x w2 ⟨⟨r2, rfl, ho2⟩, hb2⟩; rw [wt1b, wt1c]; rw [wt1a] at ho2; obtain ⟨a2, c2, rfl⟩ := owns_shape0 ho2; have hm2 := (hn1.callSl hb2 (by rw [length_vs]; exact ho2)).dropRow; clear hm1 hn1 ho2)
    | (go_at_call 64; have _t := hm2; have hn2 := hm2.alloc (vs .i64 [1]).toArray 3; refine (dall_any 1 [1] _ _ (in64 (l := [1]) (hn2.row 0 rfl) 1) (by decide)).mono ?_; rintro x w3 ⟨⟨r3, rfl, ho3⟩, hb3⟩; rw [wt2b, wt2c]; rw [wt2a] at ho3; obtain ⟨a3, c3, rfl⟩ := owns_shape0 ho3; have hm3 := (hn2.call hb3).dropRow; clear hm2 hn2 ho3)
    | (go_at_call 64; have _t := hm3; have hn3 := hm3.alloc (vs .i64 [257]).toArray 3; refine (dall_any 0 [257] _ _ (in64 (l := [257]) (hn3.row 0 rfl) 1) (by decide)).mono ?_; rintro x w4 ⟨⟨r4, rfl, ho4⟩, hb4⟩; rw [wt3b, wt3c]; rw [wt3a] at ho4; obtain ⟨a4, c4, rfl⟩ := owns_shape0 ho4; have hm4 := (hn3.call hb4).dropRow; clear hm3 hn3 ho4)
    | (go_at_call 64; have _t := hm4; have hn4 := hm4.alloc (vs .i64 [258]).toArray 3; refine (dall_any 3 [258] _ _ (in64 (l := [258]) (hn4.row 0 rfl) 1) (by decide)).mono ?_; rintro x w5 ⟨⟨r5, rfl, ho5⟩, hb5⟩; rw [wt4b, wt4c]; rw [wt4a] at ho5; obtain ⟨a5, c5, rfl⟩ := owns_shape0 ho5; have hm5 := (hn4.call hb5).dropRow; clear hm4 hn4 ho5)
    | (go_at_call 64; have _t := hm5; have hn5 := hm5.alloc (vs .i64 [0]).toArray 3; refine (dall_any 3 [0] _ _ (in64 (l := [0]) (hn5.row 0 rfl) 1) (by decide)).mono ?_; rintro x w6 ⟨⟨r6, rfl, ho6⟩, hb6⟩; rw [wt5b, wt5c]; rw [wt5a] at ho6; obtain ⟨a6, c6, rfl⟩ := owns_shape0 ho6; have hm6 := (hn5.call hb6).dropRow; clear hm5 hn5 ho6)
    | (go_at_call 62; have _t := hm6; refine (dnew_any 4 _).mono ?_; rintro x w7 ⟨rfl, hb7⟩; have hm7 := hm6.call hb7; clear hm6)
    | (go_at_call 58; have _t := hm7; refine (dstep_any (dNew 4) 3 _ (len_dNew 4) (bytesN 4)).mono ?_; rintro x w8 ⟨⟨r8, rfl, hs8⟩, hb8⟩; rw [ws1b] at hs8; rw [ws1a, ws1c, ws1d]; obtain ⟨a8, c8, rfl⟩ := hs8.shape; have hm8 := hm7.call hb8; have HS8 := Lib.hid hs8.src; clear hm7 hs8)
    | (have _t := hm8; refine wpList_alloc_x hm8 rfl rfl zero70 ?_; intro hm9)
    | (have _t := hm9; refine wpList_store_x 0 hm9 rfl rfl rfl rfl rfl (aggV hWB) (size_VV hWB hD0) (V_one _) ?_; intro hm10; simp only [List.set] at hm10; have HS10 := Lib.hid (HS8.out.fresh (V DS0) 70 (V WB)); generalize World.setRow _ _ (V WB) = w10 at hm10 HS10 ⊢; clear hm8 hm9 HS8)
    | (have _t := hm10; refine wpList_run rfl (exec_build70_0 rfl) ?_)
    | (go_at_call 58; have _t := hm10; refine (dstep_any DS0 3 _ len_DS0 bytes0).mono ?_; rintro x w11 ⟨⟨r11, rfl, hs11⟩, hb11⟩; rw [ws2a, ws2c, ws2d]; obtain ⟨a11, c11, rfl⟩ := hs11.shape; have hm11 := hm10.call hb11; have HS11 := Lib.hid (HS10.out.below hb11); clear hm10 HS10 hs11)
    | (have _t := hm11; refine wpList_alloc_x hm11 rfl rfl zero70 ?_; intro hm12)
    | (have _t := hm12; refine wpList_store_x 0 hm12 rfl rfl rfl rfl rfl (aggV hD0) (size_VV hD0 hD0) (V_one _) ?_; intro hm13; simp only [List.set] at hm13; have HS13 := Lib.hid (HS11.out.fresh (V DS0) 70 (V DS0)); generalize World.setRow _ _ (V DS0) = w13 at hm13 HS13 ⊢; clear hm11 hm12 HS11))
  apply wp_region_lit
  refine WL.out ?_
  refine WL.val rfl (by go_simp; rfl) ?_
  try simp only [Act.put, List.setIfInBounds_toArray, List.set_cons_zero, List.set_cons_succ]
  refine WL.val rfl (by go_simp; rfl) ?_
  try simp only [Act.put, List.setIfInBounds_toArray, List.set_cons_zero, List.set_cons_succ]
  refine WL.val rfl (by go_simp; rfl) ?_
  try simp only [Act.put, List.setIfInBounds_toArray, List.set_cons_zero, List.set_cons_succ]
  refine WL.val rfl (by go_simp; rfl) ?_
  try simp only [Act.put, List.setIfInBounds_toArray, List.set_cons_zero, List.set_cons_succ]
  refine WL.val rfl (by go_simp; rfl) ?_
  try simp only [Act.put, List.setIfInBounds_toArray, List.set_cons_zero, List.set_cons_succ]
  refine WL.val rfl (by go_simp; rfl) ?_
  try simp only [Act.put, List.setIfInBounds_toArray, List.set_cons_zero, List.set_cons_succ]
  refine WL.val rfl (by go_simp; rfl) ?_
  try simp only [Act.put, List.setIfInBounds_toArray, List.set_cons_zero, List.set_cons_succ]
  refine WL.val rfl (by go_simp; rfl) ?_
  try simp only [Act.put, List.setIfInBounds_toArray, List.set_cons_zero, List.set_cons_succ]
  refine WL.val rfl (exec_tostr_s (l := [2, 2, 0, 1]) rfl rfl (Src.of_owned (hm13.get 1 rfl))) ?_
  try simp only [Act.put, List.setIfInBounds_toArray, List.set_cons_zero, List.set_cons_succ]
  refine WL.val rfl (exec_eqlstr rfl rfl rfl (b := true) wstra) ?_
  try simp only [Act.put, List.setIfInBounds_toArray, List.set_cons_zero, List.set_cons_succ]
  refine WL.val rfl (by go_simp; rfl) ?_
  try simp only [Act.put, List.setIfInBounds_toArray, List.set_cons_zero, List.set_cons_succ]
  refine WL.val rfl (by go_simp; rfl) ?_
  try simp only [Act.put, List.setIfInBounds_toArray, List.set_cons_zero, List.set_cons_succ]
  refine WL.val rfl (by go_simp; rfl) ?_
  try simp only [Act.put, List.setIfInBounds_toArray, List.set_cons_zero, List.set_cons_succ]
  refine WL.val rfl (by go_simp; rfl) ?_
  try simp only [Act.put, List.setIfInBounds_toArray, List.set_cons_zero, List.set_cons_succ]
  refine WL.val rfl (by go_simp; rfl) ?_
  try simp only [Act.put, List.setIfInBounds_toArray, List.set_cons_zero, List.set_cons_succ]
  refine WL.val rfl (by go_simp; rfl) ?_
  try simp only [Act.put, List.setIfInBounds_toArray, List.set_cons_zero, List.set_cons_succ]
  refine WL.val rfl (by go_simp; rfl) ?_
  try simp only [Act.put, List.setIfInBounds_toArray, List.set_cons_zero, List.set_cons_succ]
  refine WL.val rfl (by go_simp; rfl) ?_
  try simp only [Act.put, List.setIfInBounds_toArray, List.set_cons_zero, List.set_cons_succ]
  refine WL.val rfl (by go_simp; rfl) ?_
  try simp only [Act.put, List.setIfInBounds_toArray, List.set_cons_zero, List.set_cons_succ]
  refine WL.val rfl (by go_simp; rfl) ?_
  try simp only [Act.put, List.setIfInBounds_toArray, List.set_cons_zero, List.set_cons_succ]
  refine WL.val rfl (by go_simp; rfl) ?_
  try simp only [Act.put, List.setIfInBounds_toArray, List.set_cons_zero, List.set_cons_succ]
  refine WL.val rfl (exec_tostr_s (l := [0]) rfl rfl (Src.of_owned (hm13.get 0 rfl))) ?_
  try simp only [Act.put, List.setIfInBounds_toArray, List.set_cons_zero, List.set_cons_succ]
  refine WL.val rfl (exec_eqlstr rfl rfl rfl (b := true) wstrb) ?_
  try simp only [Act.put, List.setIfInBounds_toArray, List.set_cons_zero, List.set_cons_succ]
  refine WL.val rfl (by go_simp; rfl) ?_
  try simp only [Act.put, List.setIfInBounds_toArray, List.set_cons_zero, List.set_cons_succ]
  refine WL.val rfl (by go_simp; rfl) ?_
  try simp only [Act.put, List.setIfInBounds_toArray, List.set_cons_zero, List.set_cons_succ]
  refine WL.val rfl (by go_simp; rfl) ?_
  try simp only [Act.put, List.setIfInBounds_toArray, List.set_cons_zero, List.set_cons_succ]
  refine WL.val rfl (by go_simp; rfl) ?_
  try simp only [Act.put, List.setIfInBounds_toArray, List.set_cons_zero, List.set_cons_succ]
  refine WL.val rfl (by go_simp; rfl) ?_
  try simp only [Act.put, List.setIfInBounds_toArray, List.set_cons_zero, List.set_cons_succ]
  refine WL.val rfl (by go_simp; rfl) ?_
  try simp only [Act.put, List.setIfInBounds_toArray, List.set_cons_zero, List.set_cons_succ]
  refine WL.val rfl (by go_simp; rfl) ?_
  try simp only [Act.put, List.setIfInBounds_toArray, List.set_cons_zero, List.set_cons_succ]
  refine WL.val rfl (by go_simp; rfl) ?_
  try simp only [Act.put, List.setIfInBounds_toArray, List.set_cons_zero, List.set_cons_succ]
  refine WL.val rfl (by go_simp; rfl) ?_
  try simp only [Act.put, List.setIfInBounds_toArray, List.set_cons_zero, List.set_cons_succ]
  refine WL.val rfl (by go_simp; rfl) ?_
  try simp only [Act.put, List.setIfInBounds_toArray, List.set_cons_zero, List.set_cons_succ]
  refine WL.val rfl (by go_simp; rfl) ?_
  try simp only [Act.put, List.setIfInBounds_toArray, List.set_cons_zero, List.set_cons_succ]
  refine WL.val rfl (by go_simp; rfl) ?_
  try simp only [Act.put, List.setIfInBounds_toArray, List.set_cons_zero, List.set_cons_succ]
  refine WL.val rfl (by go_simp; rfl) ?_
  try simp only [Act.put, List.setIfInBounds_toArray, List.set_cons_zero, List.set_cons_succ]
  refine WL.val rfl (by go_simp; rfl) ?_
  try simp only [Act.put, List.setIfInBounds_toArray, List.set_cons_zero, List.set_cons_succ]
  refine WL.val rfl (by go_simp; rfl) ?_
  try simp only [Act.put, List.setIfInBounds_toArray, List.set_cons_zero, List.set_cons_succ]
  refine WL.val rfl (by go_simp; rfl) ?_
  try simp only [Act.put, List.setIfInBounds_toArray, List.set_cons_zero, List.set_cons_succ]
  refine WL.val rfl (by go_simp; rfl) ?_
  try simp only [Act.put, List.setIfInBounds_toArray, List.set_cons_zero, List.set_cons_succ]
  refine WL.val rfl (by go_simp; rfl) ?_
  try simp only [Act.put, List.setIfInBounds_toArray, List.set_cons_zero, List.set_cons_succ]
  refine WL.val rfl (by go_simp; rfl) ?_
  try simp only [Act.put, List.setIfInBounds_toArray, List.set_cons_zero, List.set_cons_succ]
  refine WL.val rfl (by go_simp; rfl) ?_
  try simp only [Act.put, List.setIfInBounds_toArray, List.set_cons_zero, List.set_cons_succ]
  refine WL.val rfl (by go_simp; rfl) ?_
  try simp only [Act.put, List.setIfInBounds_toArray, List.set_cons_zero, List.set_cons_succ]
  refine WL.val rfl (by go_simp; rfl) ?_
  try simp only [Act.put, List.setIfInBounds_toArray, List.set_cons_zero, List.set_cons_succ]
  refine WL.val rfl (by go_simp; rfl) ?_
  try simp only [Act.put, List.setIfInBounds_toArray, List.set_cons_zero, List.set_cons_succ]
  refine WL.val rfl (by go_simp; rfl) ?_
  try simp only [Act.put, List.setIfInBounds_toArray, List.set_cons_zero, List.set_cons_succ]
  refine WL.val rfl (by go_simp; rfl) ?_
  try simp only [Act.put, List.setIfInBounds_toArray, List.set_cons_zero, List.set_cons_succ]
  refine WL.val rfl (by go_simp; rfl) ?_
  try simp only [Act.put, List.setIfInBounds_toArray, List.set_cons_zero, List.set_cons_succ]
  refine WL.val rfl (by go_simp; rfl) ?_
  try simp only [Act.put, List.setIfInBounds_toArray, List.set_cons_zero, List.set_cons_succ]
  refine WL.val rfl (exec_tostr_s (l := [2]) (v := .slice a8 [2].length c8) rfl rfl HS13.out) ?_
  try simp only [Act.put, List.setIfInBounds_toArray, List.set_cons_zero, List.set_cons_succ]
  refine WL.val rfl (exec_eqlstr rfl rfl rfl (b := true) wstrc) ?_
  try simp only [Act.put, List.setIfInBounds_toArray, List.set_cons_zero, List.set_cons_succ]
  refine WL.val rfl (by go_simp; rfl) ?_
  try simp only [Act.put, List.setIfInBounds_toArray, List.set_cons_zero, List.set_cons_succ]
  refine WL.val rfl (by go_simp; rfl) ?_
  try simp only [Act.put, List.setIfInBounds_toArray, List.set_cons_zero, List.set_cons_succ]
  refine WL.val rfl (by go_simp; rfl) ?_
  try simp only [Act.put, List.setIfInBounds_toArray, List.set_cons_zero, List.set_cons_succ]
  refine WL.val rfl (exec_loadcell' (off := 256) rfl rfl (hm13.row 1 rfl) one3 (show (V WB)[256]? = some (.int .i64 3) from getV1 (b := WB) hO)) ?_
  try simp only [Act.put, List.setIfInBounds_toArray, List.set_cons_zero, List.set_cons_succ]
  refine WL.val rfl (by go_simp; rfl) ?_
  try simp only [Act.put, List.setIfInBounds_toArray, List.set_cons_zero, List.set_cons_succ]
  refine WL.val rfl (by go_simp; rfl) ?_
  try simp only [Act.put, List.setIfInBounds_toArray, List.set_cons_zero, List.set_cons_succ]
  refine WL.val rfl (by go_simp; rfl) ?_
  try simp only [Act.put, List.setIfInBounds_toArray, List.set_cons_zero, List.set_cons_succ]
  refine WL.val rfl (by go_simp; rfl) ?_
  try simp only [Act.put, List.setIfInBounds_toArray, List.set_cons_zero, List.set_cons_succ]
  refine WL.val rfl (by go_simp; rfl) ?_
  try simp only [Act.put, List.setIfInBounds_toArray, List.set_cons_zero, List.set_cons_succ]
  refine WL.val rfl (exec_loadcell' (off := 0) rfl rfl (hm13.row 1 rfl) one5 (show (V WB)[0]? = some (.int .u8 2) by rw [getV0 (b := WB) hO 0 (by decide), show gi WB.l 0 = 2 by decide +kernel])) ?_
  try simp only [Act.put, List.setIfInBounds_toArray, List.set_cons_zero, List.set_cons_succ]
  refine WL.val rfl (by go_simp; rfl) ?_
  try simp only [Act.put, List.setIfInBounds_toArray, List.set_cons_zero, List.set_cons_succ]
  refine WL.val rfl (by go_simp; rfl) ?_
  try simp only [Act.put, List.setIfInBounds_toArray, List.set_cons_zero, List.set_cons_succ]
  refine WL.val rfl (by go_simp; rfl) ?_
  try simp only [Act.put, List.setIfInBounds_toArray, List.set_cons_zero, List.set_cons_succ]
  refine WL.val rfl (by go_simp; rfl) ?_
  try simp only [Act.put, List.setIfInBounds_toArray, List.set_cons_zero, List.set_cons_succ]
  refine WL.val rfl (by go_simp; rfl) ?_
  try simp only [Act.put, List.setIfInBounds_toArray, List.set_cons_zero, List.set_cons_succ]
  refine WL.val rfl (exec_loadcell' (off := 1) rfl rfl (hm13.row 1 rfl) one5 (show (V WB)[1]? = some (.int .u8 0) by rw [getV0 (b := WB) hO 1 (by decide), show gi WB.l 1 = 0 by decide +kernel])) ?_
  try simp only [Act.put, List.setIfInBounds_toArray, List.set_cons_zero, List.set_cons_succ]
  refine WL.val rfl (by go_simp; rfl) ?_
  try simp only [Act.put, List.setIfInBounds_toArray, List.set_cons_zero, List.set_cons_succ]
  refine WL.val rfl (by go_simp; rfl) ?_
  try simp only [Act.put, List.setIfInBounds_toArray, List.set_cons_zero, List.set_cons_succ]
  refine WL.val rfl (by go_simp; rfl) ?_
  try simp only [Act.put, List.setIfInBounds_toArray, List.set_cons_zero, List.set_cons_succ]
  refine WL.val rfl (by go_simp; rfl) ?_
  try simp only [Act.put, List.setIfInBounds_toArray, List.set_cons_zero, List.set_cons_succ]
  refine WL.val rfl (by go_simp; rfl) ?_
  try simp only [Act.put, List.setIfInBounds_toArray, List.set_cons_zero, List.set_cons_succ]
  refine WL.val rfl (by go_simp; rfl) ?_
  try simp only [Act.put, List.setIfInBounds_toArray, List.set_cons_zero, List.set_cons_succ]
  refine WL.val rfl (by go_simp; rfl) ?_
  try simp only [Act.put, List.setIfInBounds_toArray, List.set_cons_zero, List.set_cons_succ]
  refine WL.val rfl (exec_load_all rfl rfl (hm13.row 1 rfl) (aggV (b := WB) hWB)) ?_
  try simp only [Act.put, List.setIfInBounds_toArray, List.set_cons_zero, List.set_cons_succ]
  refine WL.doit rfl (fun K hK => ?_)
  go_simp
  refine (dvalid_any WB _ hWB vl_O2.bytes).mono ?_
  rintro x w14 ⟨rfl, hb14⟩
  rw [wok1]
  have hm14 := hm13.call hb14; clear hm13
  refine hK _ _ ?_; clear hK K
  try simp only [Act.put, List.setIfInBounds_toArray, List.set_cons_zero, List.set_cons_succ]
  refine WL.val rfl (by go_simp; rfl) ?_
  try simp only [Act.put, List.setIfInBounds_toArray, List.set_cons_zero, List.set_cons_succ]
  refine WL.val rfl (by go_simp; rfl) ?_
  try simp only [Act.put, List.setIfInBounds_toArray, List.set_cons_zero, List.set_cons_succ]
  refine WL.val rfl (exec_build70_0 rfl) ?_
  try simp only [Act.put, List.setIfInBounds_toArray, List.set_cons_zero, List.set_cons_succ]
  refine WL.doit rfl (fun K hK => ?_)
  go_simp
  refine (dvalid_any DS0 _ hD0 bytes0).mono ?_
  rintro x w15 ⟨rfl, hb15⟩
  rw [wok0]
  have hm15 := hm14.call hb15; clear hm14
  refine hK _ _ ?_; clear hK K
  try simp only [Act.put, List.setIfInBounds_toArray, List.set_cons_zero, List.set_cons_succ]
  refine WL.val rfl (by go_simp; rfl) ?_
  try simp only [Act.put, List.setIfInBounds_toArray, List.set_cons_zero, List.set_cons_succ]
  refine WL.val rfl (by go_simp; rfl) ?_
  try simp only [Act.put, List.setIfInBounds_toArray, List.set_cons_zero, List.set_cons_succ]
  refine WL.val rfl (by go_simp; rfl) ?_
  try simp only [Act.put, List.setIfInBounds_toArray, List.set_cons_zero, List.set_cons_succ]
  refine WL.doit rfl (fun K hK => ?_)
  go_simp
  refine (dnew_any 0 _).mono ?_
  rintro x w16 ⟨rfl, hb16⟩
  rw [wnew0]
  have hm16 := hm15.call hb16; clear hm15
  refine hK _ _ ?_; clear hK K
  try simp only [Act.put, List.setIfInBounds_toArray, List.set_cons_zero, List.set_cons_succ]
  refine WL.val rfl (exec_build70_0 rfl) ?_
  try simp only [Act.put, List.setIfInBounds_toArray, List.set_cons_zero, List.set_cons_succ]
  refine WL.val rfl (exec_eql70 rfl rfl rfl hD0 hD0 (r := true) (dsEq_self _)) ?_
  try simp only [Act.put, List.setIfInBounds_toArray, List.set_cons_zero, List.set_cons_succ]
  refine WL.val rfl (by go_simp; rfl) ?_
  try simp only [Act.put, List.setIfInBounds_toArray, List.set_cons_zero, List.set_cons_succ]
  refine WL.val rfl (by go_simp; rfl) ?_
  try simp only [Act.put, List.setIfInBounds_toArray, List.set_cons_zero]
  refine WL.mk ?_
  refine wpList_nil ?_
  go_simp
  go_wp2
  go_ret
  exact ⟨rfl, hm16.below⟩
end Go.Proofs.Ytaccjnekonmkoaa
