/-
  The walk of winepresslaw14.ZeroRunMatches.
-/
import Derived.Test.YtaccjnekonmkoaaZrU
import Derived.Test.YtaccjnekonmkoaaZrW
import Derived.Test.YtaccjnekonmkoaaZrDg
namespace Go.Proofs.Ytaccjnekonmkoaa
open Go Go.RowKit

theorem len_dgO (m : Int) : (dgO m).length ≤ 31 := by
  rw [dgO]
  split
  · exact len_dg 31 m.toNat (by omega)
  · simp
theorem len_foldO (l : List Int) : (foldO l).1.length ≤ l.length := by
  by_cases h : Pl l
  · rw [foldO, fgo_enc l 0 [] h, List.nil_append]
    exact len_enc l 0
  · rw [foldO, fgo_bad l 0 [] h]; simp
theorem len_unfoldO (most : Int) (l : List Int) (h : most ≤ 3000) : (unfoldO most l).1.length ≤ 3000 := by
  rcases ugo_two most l 0 0 [] with h0 | h0
  · have := (only_law (most := most) (l := l) h0).2
    omega
  · rw [unfoldO, h0]; simp
set_option maxRecDepth 100000 in
theorem zrm_w1 (n many digit most : Int) (v : Value) (l : List Int) (w : World) (hv : In .i64 w v l) (h : (300 : Int) < l.length) : Calls Try.prog 8 #[.int .i64 n, .int .i64 many, .int .i64 digit, .int .i64 most, v] w fun e w' => e = .returned (.bool true) ∧ Below w.heap.size w w' := by
  obtain ⟨ad, cp, rfl, _⟩ := hv
  go_enter Try.func8, Try.ntmps8
  have hm := Own.nil w
  go_wp2_with (first
    | (go_at_call 33; have _t := hm; refine (wakes14 _).mono ?_; rintro e w1 ⟨rfl, hb1⟩; have hm1 := hm.call hb1; clear hm))
  go_ret
  exact ⟨rfl, hm1.below⟩
set_option maxRecDepth 100000 in
theorem zrm_w2 (n many digit most : Int) (v : Value) (l : List Int) (w : World) (hv : In .i64 w v l) (h : ¬ (300 : Int) < l.length) (h2 : 3000 < most) : Calls Try.prog 8 #[.int .i64 n, .int .i64 many, .int .i64 digit, .int .i64 most, v] w fun e w' => e = .returned (.bool true) ∧ Below w.heap.size w w' := by
  obtain ⟨ad, cp, rfl, _⟩ := hv
  go_enter Try.func8, Try.ntmps8
  have hm := Own.nil w
  go_wp2_with (first
    | (go_at_call 33; have _t := hm; refine (wakes14 _).mono ?_; rintro e w1 ⟨rfl, hb1⟩; have hm1 := hm.call hb1; clear hm))
  go_ret
  exact ⟨rfl, hm1.below⟩
set_option maxRecDepth 100000 in
set_option maxHeartbeats 4000000 in
theorem zrm_in (n many digit most : Int) (v : Value) (l : List Int) (w : World) (hv : InC .i64 w v l) (h : ¬ (300 : Int) < l.length) (h2 : ¬ 3000 < most) (hlo : -9223372036854775808 ≤ most) : Calls Try.prog 8 #[.int .i64 n, .int .i64 many, .int .i64 digit, .int .i64 most, v] w fun e w' => e = .returned (.bool true) ∧ Below w.heap.size w w' := by
  have HV := Lib.hid hv
  obtain ⟨ad, cp, rfl, _, _⟩ := hv
  have hl1 := len_dgO n
  have hl2 := len_foldO l
  have hl3 := len_unfoldO most l (by omega)
  have CD : Hid (∀ w, Calls Try.prog 34 #[.int .i64 n] w (ListPost w (dgO n) (dgE n))) := fun w => digits_any n w
  have CR : Hid (∀ w, Calls Try.prog 35 #[.int .i64 n] w (ListPost w (dgO n) (dgE n))) := fun w => rdigits_any n w
  have CA : Hid (∀ w, Calls Try.prog 38 #[.int .i64 n, .int .i64 many, .int .i64 digit] w (PairPost w (addV n many digit) (addE n many digit))) := fun w => add_any n many digit w
  have CS : Hid (∀ w, Calls Try.prog 39 #[.int .i64 n, .int .i64 many, .int .i64 digit] w (PairPost w (addV n many digit) (addE n many digit))) := fun w => radd_any n many digit w
  have CN : Hid (∀ wz, Below w.heap.size w wz → Calls Try.prog 36 #[.slice ad l.length cp] wz (PairPost wz (numO l).1 (numO l).2)) := fun wz hb => number_any _ l wz (HV.out.below hb).toIn (by omega)
  have CM : Hid (∀ wz, Below w.heap.size w wz → Calls Try.prog 37 #[.slice ad l.length cp] wz (PairPost wz (numO l).1 (numO l).2)) := fun wz hb => rnumber_any _ l wz (HV.out.below hb).toIn (by omega)
  have CF : Hid (∀ wz, Below w.heap.size w wz → Calls Try.prog 41 #[.slice ad l.length cp] wz (ListPost wz (foldO l).1 (foldO l).2)) := fun wz hb => fold_any _ l wz (HV.out.below hb).toIn (by omega)
  have CG : Hid (∀ wz, Below w.heap.size w wz → Calls Try.prog 42 #[.slice ad l.length cp] wz (ListPost wz (foldO l).1 (foldO l).2)) := fun wz hb => rfold_any _ l wz (HV.out.below hb).toIn (by omega)
  have CU : Hid (∀ wz, Below w.heap.size w wz → Calls Try.prog 43 #[.int .i64 most, .slice ad l.length cp] wz (ListPost wz (unfoldO most l).1 (unfoldO most l).2)) := fun wz hb => unfold_any most _ l wz (HV.out.below hb).toIn (by omega) (by omega) (by omega)
  have CV : Hid (∀ wz, Below w.heap.size w wz → Calls Try.prog 44 #[.int .i64 most, .slice ad l.length cp] wz (ListPost wz (unfoldO most l).1 (unfoldO most l).2)) := fun wz hb => runfold_any most _ l wz (HV.out.below hb) (by omega) (by omega)
  generalize dgO n = D at *
  generalize dgE n = De at *
  generalize addV n many digit = A at *
  generalize addE n many digit = Ae at *
  generalize (numO l).1 = N at *
  generalize (numO l).2 = Ne at *
  generalize (foldO l).1 = F at *
  generalize (foldO l).2 = Fe at *
  generalize (unfoldO most l).1 = U at *
  generalize (unfoldO most l).2 = Ue at *
  go_enter Try.func8, Try.ntmps8
  have hm := Own.nil w
  go_wp2_with (first
    | (go_at_call 34; have _t := hm; refine (CD.out _).mono ?_; rintro e w1 ⟨⟨r1, rfl, ho1⟩, hb1⟩; obtain ⟨a1, c1, rfl⟩ := owns_shape0 ho1; have hm1 := hm.callSl hb1 (by rw [length_vs]; exact ho1); clear hm ho1)
    | (go_at_call 35; have _t := hm1; refine (CR.out _).mono ?_; rintro e w2 ⟨⟨r2, rfl, ho2⟩, hb2⟩; obtain ⟨a2, c2, rfl⟩ := owns_shape0 ho2; have hm2 := hm1.callSl hb2 (by rw [length_vs]; exact ho2); clear hm1 ho2)
    | (go_at_call 36; have _t := hm2; refine (CN.out _ hm2.below).mono ?_; rintro e w3 ⟨rfl, hb3⟩; have hm3 := hm2.call hb3; clear hm2)
    | (go_at_call 37; have _t := hm3; refine (CM.out _ hm3.below).mono ?_; rintro e w4 ⟨rfl, hb4⟩; have hm4 := hm3.call hb4; clear hm3)
    | (go_at_call 38; have _t := hm4; refine (CA.out _).mono ?_; rintro e w5 ⟨rfl, hb5⟩; have hm5 := hm4.call hb5; clear hm4)
    | (go_at_call 39; have _t := hm5; refine (CS.out _).mono ?_; rintro e w6 ⟨rfl, hb6⟩; have hm6 := hm5.call hb6; clear hm5)
    | (go_at_call 40; have _t := hm6; refine (ints_any _ _ D D _ ⟨_, _, rfl⟩ ⟨_, _, rfl⟩ (Src.of_owned (hm6.get 1 rfl)) (Src.of_owned (hm6.get 0 rfl)) (by omega)).mono ?_; rintro e w7 ⟨rfl, hb7⟩; rw [beq_self_eq_true]; have hm7 := (hm6.call hb7).dropSl.dropSl; clear hm6)
    | (go_at_call 41; have _t := hm7; refine (CF.out _ hm7.below).mono ?_; rintro e w8 ⟨⟨r8, rfl, ho8⟩, hb8⟩; obtain ⟨a8, c8, rfl⟩ := owns_shape0 ho8; have hm8 := hm7.callSl hb8 (by rw [length_vs]; exact ho8); clear hm7 ho8)
    | (go_at_call 42; have _t := hm8; refine (CG.out _ hm8.below).mono ?_; rintro e w9 ⟨⟨r9, rfl, ho9⟩, hb9⟩; obtain ⟨a9, c9, rfl⟩ := owns_shape0 ho9; have hm9 := hm8.callSl hb9 (by rw [length_vs]; exact ho9); clear hm8 ho9)
    | (go_at_call 43; have _t := hm9; refine (CU.out _ hm9.below).mono ?_; rintro e w10 ⟨⟨r10, rfl, ho10⟩, hb10⟩; obtain ⟨a10, c10, rfl⟩ := owns_shape0 ho10; have hm10 := hm9.callSl hb10 (by rw [length_vs]; exact ho10); clear hm9 ho10)
    | (go_at_call 44; have _t := hm10; refine (CV.out _ hm10.below).mono ?_; rintro e w11 ⟨⟨r11, rfl, ho11⟩, hb11⟩; obtain ⟨a11, c11, rfl⟩ := owns_shape0 ho11; have hm11 := hm10.callSl hb11 (by rw [length_vs]; exact ho11); clear hm10 ho11)
    | (go_at_call 40; have _t := hm11; refine (ints_any _ _ F F _ ⟨_, _, rfl⟩ ⟨_, _, rfl⟩ (Src.of_owned (hm11.get 3 rfl)) (Src.of_owned (hm11.get 2 rfl)) (by omega)).mono ?_; rintro e w12 ⟨rfl, hb12⟩; rw [beq_self_eq_true]; have hm12 := hm11.call hb12; clear hm11)
    | (go_at_call 40; have _t := hm12; refine (ints_any _ _ U U _ ⟨_, _, rfl⟩ ⟨_, _, rfl⟩ (Src.of_owned (hm12.get 1 rfl)) (Src.of_owned (hm12.get 0 rfl)) (by omega)).mono ?_; rintro e w13 ⟨rfl, hb13⟩; rw [beq_self_eq_true]; have hm13 := hm12.call hb13; clear hm12)
    | (go_at_call 33; have _t := hm13; refine (wakes14 _).mono ?_; rintro e w14 ⟨rfl, hb14⟩; have hm14 := hm13.call hb14; clear hm13))
  go_ret
  exact ⟨rfl, hm14.below⟩
theorem zrm14 (n many digit most : Int) (v : Value) (l : List Int) (w : World) (hv : InC .i64 w v l) (hlo : -9223372036854775808 ≤ most) : Calls Try.prog 8 #[.int .i64 n, .int .i64 many, .int .i64 digit, .int .i64 most, v] w fun e w' => e = .returned (.bool true) ∧ Below w.heap.size w w' := by
  by_cases h : (300 : Int) < l.length
  · exact zrm_w1 n many digit most v l w hv.toIn h
  by_cases h2 : 3000 < most
  · exact zrm_w2 n many digit most v l w hv.toIn h h2
  exact zrm_in n many digit most v l w hv h h2 hlo
end Go.Proofs.Ytaccjnekonmkoaa
