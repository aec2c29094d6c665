/-
  The walk of the laws' own examples (winepresslaw15.wakes): it returns true.
-/
import Derived.Test.YtaccjnekonmkoaaSeE
import Derived.Test.YtaccjnekonmkoaaMtfW
import Derived.Test.YtaccjnekonmkoaaZrW
namespace Go.Proofs.Ytaccjnekonmkoaa
open Go Go.RowKit

theorem sf1 : stepL new 0 [2, 2] = O2 := by decide +kernel
theorem sf2 : stepR new 0 [2, 2] = 1 := by decide +kernel
theorem sf3 : stepO new 0 [2, 2] = [3] := by decide +kernel
theorem sf4 : stepE new 0 [2, 2] = 0 := by decide +kernel
theorem sg1 : stepL O2 (-1) [1] = O2 := by decide +kernel
theorem sg2 : stepR O2 (-1) [1] = -1 := by decide +kernel
theorem sg3 : stepO O2 (-1) [1] = [] := by decide +kernel
theorem sg4 : stepE O2 (-1) [1] = 2 := by decide +kernel
theorem eg1 : endO O2 1 = [0, 257] := by decide +kernel
theorem eg2 : endE O2 1 = 0 := by decide +kernel
theorem eg3 : endO O2 (-1) = [] := by decide +kernel
theorem eg4 : endE O2 (-1) = 2 := by decide +kernel
theorem ag1 : allO [2, 2, 0, 1] = [3, 0, 2, 3, 257] := by decide +kernel
theorem ag2 : allO [0, 0, 0, 0, 0] = [0, 1, 257] := by decide +kernel
theorem ag3 : allO [] = [257] := by decide +kernel
theorem ok1 : encOk O2 1 = true := by decide +kernel
theorem ok2 : encOk O2 (-1) = false := by decide +kernel
theorem O2at : gi O2 0 = 2 := by decide +kernel
theorem in8 {w : World} {g : Nat} {l : List Int} (h : RowIs w g (B l)) (c : Nat) : In .u8 w (.slice (some ⟨g, 0, none⟩) l.length c) l := In.row h c
set_option maxRecDepth 100000 in
set_option maxHeartbeats 8000000 in
theorem wakes15 (w : World) : Calls Try.prog 45 #[] w fun e w' => e = .returned (.bool true) ∧ Below w.heap.size w w' := by
  have hO := vl_O2.len
  go_enter Try.func45, Try.ntmps45
  have hm := Own.nil w
  go_upto_region 7 with (first
    | (go_at_call 53; have _t := hm; refine (enew_any _).mono ?_; rintro e w1 ⟨rfl, hb1⟩; have hm1 := hm.call hb1; clear hm)
    | (go_at_call 46; have _t := hm1; have hm2 := hm1.alloc (B [2, 2]) 5; refine (estep_any new [2, 2] 0 _ _ len_new vl_new.bytes (byt4 _ rfl) (in8 (l := [2, 2]) (hm2.row 0 rfl) 2) (by decide)).mono ?_; rintro e w3 ⟨⟨r3, rfl, ho3⟩, hb3⟩; rw [sf3] at ho3; rw [sf1, sf2, sf4]; obtain ⟨a3, c3, rfl⟩ := owns_shape0 ho3; have hm3 := hm2.callSl hb3 (by rw [length_vs]; exact ho3); clear hm1 hm2 ho3)
    | (refine wpList_alloc_o hm3 rfl rfl zero57 ?_; intro w4 g4 hm4; clear hm3)
    | (refine wpList_store_o 0 hm4 rfl rfl rfl rfl rfl (aggE _ hO) (size_EE _ _ hO len_zeros) (EV_one _ _) ?_; intro w5 hm5; simp only [List.set] at hm5; clear hm4)
    | (refine wpList_load_all rfl rfl rfl (hm5.row 0 rfl) (aggE _ hO) ?_)
    | (go_at_call 48; have _t := hm5; refine (eend_any O2 1 _ hO vl_O2.bytes).mono ?_; rintro e w6 ⟨⟨r6, rfl, ho6⟩, hb6⟩; rw [eg1] at ho6; rw [eg2]; obtain ⟨a6, c6, rfl⟩ := owns_shape0 ho6; have hm6 := hm5.callSl hb6 (by rw [length_vs]; exact ho6); clear hm5 ho6)
    | (refine wpList_load_all rfl rfl rfl (hm6.row 0 rfl) (aggE _ hO) ?_)
    | (refine wpList_alloc_o hm6 rfl rfl zero57 ?_; intro w7 g7 hm7; clear hm6)
    | (refine wpList_store_o 0 hm7 rfl rfl rfl rfl rfl (aggE _ hO) (size_EE _ _ hO len_zeros) (EV_one _ _) ?_; intro w8 hm8; simp only [List.set] at hm8; clear hm7)
    | (refine wpList_storecell_o (v := .int .i64 (-1)) 0 hm8 rfl rfl rfl rfl rfl one3 (lt_EV _ hO) rfl rfl (set_EV _ _ hO) ?_; intro w9 hm9; simp only [List.set] at hm9; clear hm8)
    | (refine wpList_load_all rfl rfl rfl (hm9.row 0 rfl) (aggE _ hO) ?_)
    | (go_at_call 46; have _t := hm9; have hm10 := hm9.alloc (B [1]) 5; refine (estep_any O2 [1] (-1) _ _ hO vl_O2.bytes (byt4 _ rfl) (in8 (l := [1]) (hm10.row 0 rfl) 1) (by decide)).mono ?_; rintro e w11 ⟨⟨r11, rfl, ho11⟩, hb11⟩; rw [sg3] at ho11; rw [sg1, sg2, sg4]; obtain ⟨a11, c11, rfl⟩ := owns_shape0 ho11; have hm11 := (hm10.call hb11).dropRow; clear hm9 hm10 ho11)
    | (refine wpList_alloc_o hm11 rfl rfl zero57 ?_; intro w12 g12 hm12; clear hm11)
    | (refine wpList_store_o 0 hm12 rfl rfl rfl rfl rfl (aggE _ hO) (size_EE _ _ hO len_zeros) (EV_one _ _) ?_; intro w13 hm13; simp only [List.set] at hm13; clear hm12)
    | (refine wpList_load_all rfl rfl rfl (hm13.row 1 rfl) (aggE _ hO) ?_)
    | (go_at_call 48; have _t := hm13; refine (eend_any O2 (-1) _ hO vl_O2.bytes).mono ?_; rintro e w14 ⟨⟨r14, rfl, ho14⟩, hb14⟩; rw [eg3] at ho14; rw [eg4]; obtain ⟨a14, c14, rfl⟩ := owns_shape0 ho14; have hm14 := hm13.call hb14; clear hm13 ho14))
  apply wp_region_lit
  refine wpList_do rfl (fun K hK => ?_)
  go_simp
  refine hK _ _ ?_; clear hK K
  have hm15 := hm14.alloc (B [2, 2, 0, 1]) 5; clear hm14
  try simp only [Act.put, List.setIfInBounds_toArray, List.set_cons_zero, List.set_cons_succ]
  refine wpList_do rfl (fun K hK => ?_)
  go_simp
  refine (eall_any [2, 2, 0, 1] _ _ (byt4 _ rfl) (in8 (l := [2, 2, 0, 1]) (hm15.row 0 rfl) 4) (by decide)).mono ?_
  rintro e w16 ⟨⟨r16, rfl, ho16⟩, hb16⟩
  rw [ag1] at ho16
  obtain ⟨a16, c16, rfl⟩ := owns_shape0 ho16
  have hm16 := (hm15.callSl hb16 (by rw [length_vs]; exact ho16)).dropRow; clear hm15 ho16
  refine hK _ _ ?_; clear hK K
  try simp only [Act.put, List.setIfInBounds_toArray, List.set_cons_zero, List.set_cons_succ]
  refine wpList_do rfl (fun K hK => ?_)
  go_simp
  refine hK _ _ ?_; clear hK K
  have hm17 := hm16.alloc (vs .i64 [3, 0, 2, 3, 257]).toArray 3; clear hm16
  try simp only [Act.put, List.setIfInBounds_toArray, List.set_cons_zero, List.set_cons_succ]
  refine wpList_do rfl (fun K hK => ?_)
  go_simp
  refine (ints7_any _ _ [3, 0, 2, 3, 257] [3, 0, 2, 3, 257] _ ⟨_, _, rfl⟩ ⟨_, _, rfl⟩ (Src.of_owned (hm17.get 0 rfl)) (src64 (l := [3, 0, 2, 3, 257]) (hm17.row 0 rfl) 5) (by decide)).mono ?_
  rintro e w18 ⟨rfl, hb18⟩
  rw [beq_self_eq_true]
  have hm18 := (hm17.call hb18).dropRow.dropSl; clear hm17
  refine hK _ _ ?_; clear hK K
  try simp only [Act.put, List.setIfInBounds_toArray, List.set_cons_zero, List.set_cons_succ]
  refine wpList_val rfl (by go_simp; rfl) ?_
  try simp only [Act.put, List.setIfInBounds_toArray, List.set_cons_zero, List.set_cons_succ]
  refine wpList_do rfl (fun K hK => ?_)
  go_simp
  refine hK _ _ ?_; clear hK K
  have hm19 := hm18.alloc (B [0, 0, 0, 0, 0]) 5; clear hm18
  try simp only [Act.put, List.setIfInBounds_toArray, List.set_cons_zero, List.set_cons_succ]
  refine wpList_do rfl (fun K hK => ?_)
  go_simp
  refine (eall_any [0, 0, 0, 0, 0] _ _ (byt4 _ rfl) (in8 (l := [0, 0, 0, 0, 0]) (hm19.row 0 rfl) 5) (by decide)).mono ?_
  rintro e w20 ⟨⟨r20, rfl, ho20⟩, hb20⟩
  rw [ag2] at ho20
  obtain ⟨a20, c20, rfl⟩ := owns_shape0 ho20
  have hm20 := (hm19.callSl hb20 (by rw [length_vs]; exact ho20)).dropRow; clear hm19 ho20
  refine hK _ _ ?_; clear hK K
  try simp only [Act.put, List.setIfInBounds_toArray, List.set_cons_zero, List.set_cons_succ]
  refine wpList_do rfl (fun K hK => ?_)
  go_simp
  refine hK _ _ ?_; clear hK K
  have hm21 := hm20.alloc (vs .i64 [0, 1, 257]).toArray 3; clear hm20
  try simp only [Act.put, List.setIfInBounds_toArray, List.set_cons_zero, List.set_cons_succ]
  refine wpList_do rfl (fun K hK => ?_)
  go_simp
  refine (ints7_any _ _ [0, 1, 257] [0, 1, 257] _ ⟨_, _, rfl⟩ ⟨_, _, rfl⟩ (Src.of_owned (hm21.get 0 rfl)) (src64 (l := [0, 1, 257]) (hm21.row 0 rfl) 3) (by decide)).mono ?_
  rintro e w22 ⟨rfl, hb22⟩
  rw [beq_self_eq_true]
  have hm22 := (hm21.call hb22).dropRow.dropSl; clear hm21
  refine hK _ _ ?_; clear hK K
  try simp only [Act.put, List.setIfInBounds_toArray, List.set_cons_zero, List.set_cons_succ]
  refine wpList_val rfl (by go_simp; rfl) ?_
  try simp only [Act.put, List.setIfInBounds_toArray, List.set_cons_zero, List.set_cons_succ]
  refine wpList_val rfl (by go_simp; rfl) ?_
  try simp only [Act.put, List.setIfInBounds_toArray, List.set_cons_zero, List.set_cons_succ]
  refine wpList_do rfl (fun K hK => ?_)
  go_simp
  refine (eall_any [] _ _ (byt4 _ rfl) (In.nil _ _) (by decide)).mono ?_
  rintro e w23 ⟨⟨r23, rfl, ho23⟩, hb23⟩
  rw [ag3] at ho23
  obtain ⟨a23, c23, rfl⟩ := owns_shape0 ho23
  have hm23 := (hm22.callSl hb23 (by rw [length_vs]; exact ho23)); clear hm22 ho23
  refine hK _ _ ?_; clear hK K
  try simp only [Act.put, List.setIfInBounds_toArray, List.set_cons_zero, List.set_cons_succ]
  refine wpList_do rfl (fun K hK => ?_)
  go_simp
  refine hK _ _ ?_; clear hK K
  have hm24 := hm23.alloc (vs .i64 [257]).toArray 3; clear hm23
  try simp only [Act.put, List.setIfInBounds_toArray, List.set_cons_zero, List.set_cons_succ]
  refine wpList_do rfl (fun K hK => ?_)
  go_simp
  refine (ints7_any _ _ [257] [257] _ ⟨_, _, rfl⟩ ⟨_, _, rfl⟩ (Src.of_owned (hm24.get 0 rfl)) (src64 (l := [257]) (hm24.row 0 rfl) 1) (by decide)).mono ?_
  rintro e w25 ⟨rfl, hb25⟩
  rw [beq_self_eq_true]
  have hm25 := (hm24.call hb25).dropRow.dropSl; clear hm24
  refine hK _ _ ?_; clear hK K
  try simp only [Act.put, List.setIfInBounds_toArray, List.set_cons_zero, List.set_cons_succ]
  refine wpList_val rfl (by go_simp; rfl) ?_
  try simp only [Act.put, List.setIfInBounds_toArray, List.set_cons_zero, List.set_cons_succ]
  refine wpList_val rfl (by go_simp; rfl) ?_
  try simp only [Act.put, List.setIfInBounds_toArray, List.set_cons_zero, List.set_cons_succ]
  refine wpList_val rfl (by go_simp; rfl) ?_
  try simp only [Act.put, List.setIfInBounds_toArray, List.set_cons_zero, List.set_cons_succ]
  refine wpList_val rfl (by go_simp; rfl) ?_
  try simp only [Act.put, List.setIfInBounds_toArray, List.set_cons_zero, List.set_cons_succ]
  refine wpList_val rfl (by go_simp; rfl) ?_
  try simp only [Act.put, List.setIfInBounds_toArray, List.set_cons_zero, List.set_cons_succ]
  refine wpList_val rfl (by go_simp; rfl) ?_
  try simp only [Act.put, List.setIfInBounds_toArray, List.set_cons_zero, List.set_cons_succ]
  refine wpList_val rfl (by go_simp; rfl) ?_
  try simp only [Act.put, List.setIfInBounds_toArray, List.set_cons_zero, List.set_cons_succ]
  refine wpList_do rfl (fun K hK => ?_)
  go_simp
  refine hK _ _ ?_; clear hK K
  have hm26 := hm25.alloc (vs .i64 [3]).toArray 3; clear hm25
  try simp only [Act.put, List.setIfInBounds_toArray, List.set_cons_zero, List.set_cons_succ]
  refine wpList_do rfl (fun K hK => ?_)
  go_simp
  refine (ints7_any _ _ [3] [3] _ ⟨_, _, rfl⟩ ⟨_, _, rfl⟩ (Src.of_owned (hm26.get 1 rfl)) (src64 (l := [3]) (hm26.row 0 rfl) 1) (by decide)).mono ?_
  rintro e w27 ⟨rfl, hb27⟩
  rw [beq_self_eq_true]
  have hm27 := (hm26.call hb27).dropRow; clear hm26
  refine hK _ _ ?_; clear hK K
  try simp only [Act.put, List.setIfInBounds_toArray, List.set_cons_zero, List.set_cons_succ]
  refine wpList_val rfl (by go_simp; rfl) ?_
  try simp only [Act.put, List.setIfInBounds_toArray, List.set_cons_zero, List.set_cons_succ]
  refine wpList_val rfl (by go_simp; rfl) ?_
  try simp only [Act.put, List.setIfInBounds_toArray, List.set_cons_zero, List.set_cons_succ]
  refine wpList_val rfl (by go_simp; rfl) ?_
  try simp only [Act.put, List.setIfInBounds_toArray, List.set_cons_zero, List.set_cons_succ]
  refine wpList_run rfl (exec_loadcell' rfl rfl (hm27.row 2 rfl) one3 (run_EV _ hO)) ?_
  try simp only [Act.put, List.setIfInBounds_toArray, List.set_cons_zero, List.set_cons_succ]
  refine wpList_val rfl (by go_simp; rfl) ?_
  try simp only [Act.put, List.setIfInBounds_toArray, List.set_cons_zero, List.set_cons_succ]
  refine wpList_val rfl (by go_simp; rfl) ?_
  try simp only [Act.put, List.setIfInBounds_toArray, List.set_cons_zero, List.set_cons_succ]
  refine wpList_val rfl (by go_simp; rfl) ?_
  try simp only [Act.put, List.setIfInBounds_toArray, List.set_cons_zero, List.set_cons_succ]
  refine wpList_val rfl (by go_simp; rfl) ?_
  try simp only [Act.put, List.setIfInBounds_toArray, List.set_cons_zero, List.set_cons_succ]
  refine wpList_val rfl (by go_simp; rfl) ?_
  try simp only [Act.put, List.setIfInBounds_toArray, List.set_cons_zero, List.set_cons_succ]
  refine wpList_run rfl (exec_loadcell' rfl rfl (hm27.row 2 rfl) one5 (by rw [EV, get_Xl _ hO 0 (by decide), O2at])) ?_
  try simp only [Act.put, List.setIfInBounds_toArray, List.set_cons_zero, List.set_cons_succ]
  refine wpList_val rfl (by go_simp; rfl) ?_
  try simp only [Act.put, List.setIfInBounds_toArray, List.set_cons_zero, List.set_cons_succ]
  refine wpList_val rfl (by go_simp; rfl) ?_
  try simp only [Act.put, List.setIfInBounds_toArray, List.set_cons_zero, List.set_cons_succ]
  refine wpList_val rfl (by go_simp; rfl) ?_
  try simp only [Act.put, List.setIfInBounds_toArray, List.set_cons_zero, List.set_cons_succ]
  refine wpList_val rfl (by go_simp; rfl) ?_
  try simp only [Act.put, List.setIfInBounds_toArray, List.set_cons_zero, List.set_cons_succ]
  refine wpList_val rfl (by go_simp; rfl) ?_
  try simp only [Act.put, List.setIfInBounds_toArray, List.set_cons_zero, List.set_cons_succ]
  refine wpList_val rfl (by go_simp; rfl) ?_
  try simp only [Act.put, List.setIfInBounds_toArray, List.set_cons_zero, List.set_cons_succ]
  refine wpList_val rfl (by go_simp; rfl) ?_
  try simp only [Act.put, List.setIfInBounds_toArray, List.set_cons_zero, List.set_cons_succ]
  refine wpList_val rfl (by go_simp; rfl) ?_
  try simp only [Act.put, List.setIfInBounds_toArray, List.set_cons_zero, List.set_cons_succ]
  refine wpList_do rfl (fun K hK => ?_)
  go_simp
  refine hK _ _ ?_; clear hK K
  have hm28 := hm27.alloc (vs .i64 [0, 257]).toArray 3; clear hm27
  try simp only [Act.put, List.setIfInBounds_toArray, List.set_cons_zero, List.set_cons_succ]
  refine wpList_do rfl (fun K hK => ?_)
  go_simp
  refine (ints7_any _ _ [0, 257] [0, 257] _ ⟨_, _, rfl⟩ ⟨_, _, rfl⟩ (Src.of_owned (hm28.get 0 rfl)) (src64 (l := [0, 257]) (hm28.row 0 rfl) 2) (by decide)).mono ?_
  rintro e w29 ⟨rfl, hb29⟩
  rw [beq_self_eq_true]
  have hm29 := (hm28.call hb29).dropRow; clear hm28
  refine hK _ _ ?_; clear hK K
  try simp only [Act.put, List.setIfInBounds_toArray, List.set_cons_zero, List.set_cons_succ]
  refine wpList_val rfl (by go_simp; rfl) ?_
  try simp only [Act.put, List.setIfInBounds_toArray, List.set_cons_zero, List.set_cons_succ]
  refine wpList_val rfl (by go_simp; rfl) ?_
  try simp only [Act.put, List.setIfInBounds_toArray, List.set_cons_zero, List.set_cons_succ]
  refine wpList_val rfl (by go_simp; rfl) ?_
  try simp only [Act.put, List.setIfInBounds_toArray, List.set_cons_zero, List.set_cons_succ]
  refine wpList_val rfl (by go_simp; rfl) ?_
  try simp only [Act.put, List.setIfInBounds_toArray, List.set_cons_zero, List.set_cons_succ]
  refine wpList_val rfl (by go_simp; rfl) ?_
  try simp only [Act.put, List.setIfInBounds_toArray, List.set_cons_zero, List.set_cons_succ]
  refine wpList_val rfl (by go_simp; rfl) ?_
  try simp only [Act.put, List.setIfInBounds_toArray, List.set_cons_zero, List.set_cons_succ]
  refine wpList_load_all rfl rfl rfl (hm29.row 0 rfl) (aggE _ hO) ?_
  try simp only [Act.put, List.setIfInBounds_toArray, List.set_cons_zero, List.set_cons_succ]
  refine wpList_load_all rfl rfl rfl (hm29.row 1 rfl) (aggE _ hO) ?_
  try simp only [Act.put, List.setIfInBounds_toArray, List.set_cons_zero, List.set_cons_succ]
  refine wpList_run rfl (exec_eql57 rfl rfl rfl hO hO (b := true) (by rw [beq_self_eq_true, beq_self_eq_true]; rfl)) ?_
  try simp only [Act.put, List.setIfInBounds_toArray, List.set_cons_zero, List.set_cons_succ]
  refine wpList_val rfl (by go_simp; rfl) ?_
  try simp only [Act.put, List.setIfInBounds_toArray, List.set_cons_zero, List.set_cons_succ]
  refine wpList_val rfl (by go_simp; rfl) ?_
  try simp only [Act.put, List.setIfInBounds_toArray, List.set_cons_zero, List.set_cons_succ]
  refine wpList_val rfl (by go_simp; rfl) ?_
  try simp only [Act.put, List.setIfInBounds_toArray, List.set_cons_zero, List.set_cons_succ]
  refine wpList_val rfl (by go_simp; rfl) ?_
  try simp only [Act.put, List.setIfInBounds_toArray, List.set_cons_zero, List.set_cons_succ]
  refine wpList_val rfl (by go_simp; rfl) ?_
  try simp only [Act.put, List.setIfInBounds_toArray, List.set_cons_zero, List.set_cons_succ]
  refine wpList_val rfl (by go_simp; rfl) ?_
  try simp only [Act.put, List.setIfInBounds_toArray, List.set_cons_zero, List.set_cons_succ]
  refine wpList_val rfl (by go_simp; rfl) ?_
  try simp only [Act.put, List.setIfInBounds_toArray, List.set_cons_zero, List.set_cons_succ]
  refine wpList_val rfl (by go_simp; rfl) ?_
  try simp only [Act.put, List.setIfInBounds_toArray, List.set_cons_zero, List.set_cons_succ]
  refine wpList_val rfl (by go_simp; rfl) ?_
  try simp only [Act.put, List.setIfInBounds_toArray, List.set_cons_zero, List.set_cons_succ]
  refine wpList_val rfl (by go_simp; rfl) ?_
  try simp only [Act.put, List.setIfInBounds_toArray, List.set_cons_zero, List.set_cons_succ]
  refine wpList_val rfl (by go_simp; rfl) ?_
  try simp only [Act.put, List.setIfInBounds_toArray, List.set_cons_zero, List.set_cons_succ]
  refine wpList_load_all rfl rfl rfl (hm29.row 2 rfl) (aggE _ hO) ?_
  try simp only [Act.put, List.setIfInBounds_toArray, List.set_cons_zero, List.set_cons_succ]
  refine wpList_do rfl (fun K hK => ?_)
  go_simp
  refine (evalid_any O2 (1) _ hO vl_O2.bytes).mono ?_
  rintro e w30 ⟨rfl, hb30⟩
  rw [ok1]
  have hm30 := hm29.call hb30; clear hm29
  refine hK _ _ ?_; clear hK K
  try simp only [Act.put, List.setIfInBounds_toArray, List.set_cons_zero, List.set_cons_succ]
  refine wpList_val rfl (by go_simp; rfl) ?_
  try simp only [Act.put, List.setIfInBounds_toArray, List.set_cons_zero, List.set_cons_succ]
  refine wpList_val rfl (by go_simp; rfl) ?_
  try simp only [Act.put, List.setIfInBounds_toArray, List.set_cons_zero, List.set_cons_succ]
  refine wpList_load_all rfl rfl rfl (hm30.row 1 rfl) (aggE _ hO) ?_
  try simp only [Act.put, List.setIfInBounds_toArray, List.set_cons_zero, List.set_cons_succ]
  refine wpList_do rfl (fun K hK => ?_)
  go_simp
  refine (evalid_any O2 (-1) _ hO vl_O2.bytes).mono ?_
  rintro e w31 ⟨rfl, hb31⟩
  rw [ok2]
  have hm31 := hm30.call hb31; clear hm30
  refine hK _ _ ?_; clear hK K
  try simp only [Act.put, List.setIfInBounds_toArray, List.set_cons_zero, List.set_cons_succ]
  refine wpList_val rfl (by go_simp; rfl) ?_
  try simp only [Act.put, List.setIfInBounds_toArray, List.set_cons_zero, List.set_cons_succ]
  refine wpList_val rfl (by go_simp; rfl) ?_
  try simp only [Act.put, List.setIfInBounds_toArray, List.set_cons_zero, List.set_cons_succ]
  refine wpList_val rfl (by go_simp; rfl) ?_
  try simp only [Act.put, List.setIfInBounds_toArray, List.set_cons_zero]
  refine wpList_nil ?_
  go_simp
  go_wp2
  go_ret
  exact ⟨rfl, hm31.below⟩
end Go.Proofs.Ytaccjnekonmkoaa
