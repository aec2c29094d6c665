/-
  The walk of winepresslaw14.ZeroRunBack: positions.
-/
import Derived.Test.YtaccjnekonmkoaaZrBa
namespace Go.Proofs.Ytaccjnekonmkoaa
open Go Go.RowKit

set_option maxRecDepth 100000 in
set_option maxHeartbeats 4000000 in
theorem back_one (v : Value) (l S : List Int) (w : World) (sv : Src w v (vs .i64 l)) (h : ¬ (600 : Int) < l.length) (CF : Hid (foldO l = (S, 0))) (CM : Hid (mayUp l l.length = true)) (CU : Hid (unfoldO l.length S = (l, 0))) (hS : S.length ≤ l.length) (hN : nulls l l.length = 0 → S.length = l.length) (hl0 : ¬ l.length = 0) (CV : Hid (unfoldO ((l.length : Int) - 1) S = ([], 2))) : Calls Try.prog 9 #[v] w fun e w' => e = .returned (.bool true) ∧ Below w.heap.size w w' := by
  have HV := Lib.hid (srcIn sv)
  have SV := Lib.hid sv
  obtain ⟨ad, cp, rfl, hc⟩ := srcIn sv
  have HC := Lib.hid hc
  obtain ⟨i3, hE⟩ := el39
  have HE := Lib.hid hE
  clear sv hE hc
  have HSN := Lib.hid hN
  have hS1 : ¬ (l.length : Int) < S.length := by omega
  have hS2 : decide ((l.length : Int) < S.length) = false := decide_eq_false hS1
  clear hN
  have hL0 : ((l.length : Int) == 0) = false := beq_eq_false_iff_ne.2 (by omega)
  have hL1 : decide ((l.length : Int) = 0) = false := decide_eq_false (by omega)
  have HL1 := Lib.hid hl0
  clear hl0
  have hwm : IntKind.i64.wrap ((l.length : Int) - 1) = (l.length : Int) - 1 := IntWalk.i64_in _ (by omega)
  go_enter Try.func9, Try.ntmps9
  have hm := Own.nil w
  go_wp2_with (first
    | (go_at_call 41; have _t := hm; refine (fold_any _ l _ HV.out (by omega)).mono ?_; rintro e w1 ⟨⟨r1, rfl, ho1⟩, hb1⟩; rw [CF.out] at ho1; rw [CF.out]; obtain ⟨a1, c1, rfl⟩ := owns_shape0 ho1; have hm1 := hm.callSl hb1 (by rw [length_vs]; exact ho1); clear hm ho1))
  go_loopw [5, 6, 7] (fun a b u wr => ∃ i : Nat, i ≤ l.length ∧ a = .bool (mayUp l i) ∧ b = .int .i64 (nulls l i) ∧ u = .int .i64 i ∧ Own w wr [] [(.slice a1 S.length c1, 3, vs .i64 S)]) (fun _ _ u _ => l.length - (intOf u).toNat)
  case atStart => exact ⟨0, by omega, rfl, rfl, rfl, hm1⟩
  case round =>
    obtain ⟨i, hi, rfl, rfl, rfl, hmr⟩ := hrel
    clear hm1
    by_cases hlt : i < l.length
    · obtain ⟨A, rfl, hA0⟩ := HC.out i hlt
      have hA : wr.cell? (A.add i) = some (.int .i64 (gi l i)) := (hmr.below.cell (block_lt_of_cell hA0)).trans hA0
      have hs1 := mayUp_step l i hlt
      have hs2 := nulls_step l i hlt
      have hs3 := nulls_le l i
      have hq : IntKind.i64.wrap ((nulls l i : Int) + 1) = ((nulls l i + 1 : Nat) : Int) := by rw [IntWalk.i64_in _ (by omega)]; omega
      clear hA0 hs3
      generalize gi l i = p at *
      generalize nulls l i = c at *
      generalize mayUp l i = m at *
      cases m
      · by_cases hp0 : p = 0
        · subst hp0
          have e1 : Hid (mayUp l (i + 1) = false) := by show mayUp l (i + 1) = false; rw [hs1]; simp; try omega
          have e2 : Hid (nulls l (i + 1) = c + 1) := by show nulls l (i + 1) = _; rw [hs2]; simp; try omega
          clear hs1 hs2
          go_wp2_with (first
            | (refine wpList_run rfl (exec_indexAddr_sl rfl HE.out rfl rfl rfl hlt) ?_)
            | (refine wpList_run rfl (exec_loadaddr rfl rfl one3 hA) ?_))
          go_roundw
          case rel => exact ⟨i + 1, by omega, by rw [e1.out], by first | (rw [e2.out]; done) | (rw [e2.out]; go_num) | go_num, by go_num, hmr⟩
          case measure => simp [intOf]; omega
        · have p1 : (p == 0) = false := by simpa using hp0
          have p2 : decide (p = 0) = false := decide_eq_false hp0
          have e1 : Hid (mayUp l (i + 1) = false) := by show mayUp l (i + 1) = false; rw [hs1]; simp; try omega
          have e2 : Hid (nulls l (i + 1) = c) := by show nulls l (i + 1) = _; rw [hs2]; simp; try omega
          clear hs1 hs2
          go_wp2_with (first
            | (refine wpList_run rfl (exec_indexAddr_sl rfl HE.out rfl rfl rfl hlt) ?_)
            | (refine wpList_run rfl (exec_loadaddr rfl rfl one3 hA) ?_))
          go_roundw
          case rel => exact ⟨i + 1, by omega, by rw [e1.out], by first | (rw [e2.out]; done) | (rw [e2.out]; go_num) | go_num, by go_num, hmr⟩
          case measure => simp [intOf]; omega
      · by_cases hlo : p < 0
        · have p0 : ¬ 0 ≤ p := by omega
          have hp0 : ¬ p = 0 := by omega
          have p1 : (p == 0) = false := by simpa using hp0
          have p2 : decide (p = 0) = false := decide_eq_false hp0
          have p3 : decide (0 ≤ p) = false := decide_eq_false p0
          have e1 : Hid (mayUp l (i + 1) = false) := by show mayUp l (i + 1) = false; rw [hs1]; simp; try omega
          have e2 : Hid (nulls l (i + 1) = c) := by show nulls l (i + 1) = _; rw [hs2]; simp; try omega
          clear hs1 hs2
          go_wp2_with (first
            | (refine wpList_run rfl (exec_indexAddr_sl rfl HE.out rfl rfl rfl hlt) ?_)
            | (refine wpList_run rfl (exec_loadaddr rfl rfl one3 hA) ?_))
          go_roundw
          case rel => exact ⟨i + 1, by omega, by rw [e1.out], by first | (rw [e2.out]; done) | (rw [e2.out]; go_num) | go_num, by go_num, hmr⟩
          case measure => simp [intOf]; omega
        have q0 : 0 ≤ p := by omega
        have q1 : decide (0 ≤ p) = true := decide_eq_true q0
        by_cases hhi : 255 < p
        · have p0 : ¬ p ≤ 255 := by omega
          have hp0 : ¬ p = 0 := by omega
          have p1 : (p == 0) = false := by simpa using hp0
          have p2 : decide (p = 0) = false := decide_eq_false hp0
          have p3 : decide (p ≤ 255) = false := decide_eq_false p0
          have e1 : Hid (mayUp l (i + 1) = false) := by show mayUp l (i + 1) = false; rw [hs1]; simp; try omega
          have e2 : Hid (nulls l (i + 1) = c) := by show nulls l (i + 1) = _; rw [hs2]; simp; try omega
          clear hs1 hs2
          go_wp2_with (first
            | (refine wpList_run rfl (exec_indexAddr_sl rfl HE.out rfl rfl rfl hlt) ?_)
            | (refine wpList_run rfl (exec_loadaddr rfl rfl one3 hA) ?_))
          go_roundw
          case rel => exact ⟨i + 1, by omega, by rw [e1.out], by first | (rw [e2.out]; done) | (rw [e2.out]; go_num) | go_num, by go_num, hmr⟩
          case measure => simp [intOf]; omega
        have q2 : p ≤ 255 := by omega
        have q3 : decide (p ≤ 255) = true := decide_eq_true q2
        by_cases hp0 : p = 0
        · subst hp0
          have e1 : Hid (mayUp l (i + 1) = true) := by show mayUp l (i + 1) = true; rw [hs1]; simp; try omega
          have e2 : Hid (nulls l (i + 1) = c + 1) := by show nulls l (i + 1) = _; rw [hs2]; simp; try omega
          clear hs1 hs2
          go_wp2_with (first
            | (refine wpList_run rfl (exec_indexAddr_sl rfl HE.out rfl rfl rfl hlt) ?_)
            | (refine wpList_run rfl (exec_loadaddr rfl rfl one3 hA) ?_))
          go_roundw
          case rel => exact ⟨i + 1, by omega, by rw [e1.out], by first | (rw [e2.out]; done) | (rw [e2.out]; go_num) | go_num, by go_num, hmr⟩
          case measure => simp [intOf]; omega
        · have p1 : (p == 0) = false := by simpa using hp0
          have p2 : decide (p = 0) = false := decide_eq_false hp0
          have e1 : Hid (mayUp l (i + 1) = true) := by show mayUp l (i + 1) = true; rw [hs1]; simp; try omega
          have e2 : Hid (nulls l (i + 1) = c) := by show nulls l (i + 1) = _; rw [hs2]; simp; try omega
          clear hs1 hs2
          go_wp2_with (first
            | (refine wpList_run rfl (exec_indexAddr_sl rfl HE.out rfl rfl rfl hlt) ?_)
            | (refine wpList_run rfl (exec_loadaddr rfl rfl one3 hA) ?_))
          go_roundw
          case rel => exact ⟨i + 1, by omega, by rw [e1.out], by first | (rw [e2.out]; done) | (rw [e2.out]; go_num) | go_num, by go_num, hmr⟩
          case measure => simp [intOf]; omega
    · obtain rfl : i = l.length := by omega
      rw [CM.out]
      have hcond : nulls l l.length = 0 → S.length = l.length := HSN.out
      generalize nulls l l.length = c at *
      by_cases hc0 : c = 0
      · subst hc0
        have hq1 : ((S.length : Int) == (l.length : Int)) = true := by simp [hcond rfl]
        have hq2 : ((S.length : Int) != (l.length : Int)) = false := by simp [hcond rfl]
        clear hcond
        go_wp2_with (first
          | (go_at_call 43; have _t := hmr; refine (unfold_any l.length _ S _ (srcIn (Src.of_owned (hmr.get 0 rfl))) (by omega) (by omega) (by omega)).mono ?_; rintro e w2 ⟨⟨r2, rfl, ho2⟩, hb2⟩; rw [CU.out] at ho2; rw [CU.out]; obtain ⟨a2, c2, rfl⟩ := owns_shape0 ho2; have hm2 := hmr.callSl hb2 (by rw [length_vs]; exact ho2); clear hmr ho2)
          | (go_at_call 40; have _t := hm2; refine (ints_any _ _ l l _ ⟨_, _, rfl⟩ ⟨_, _, rfl⟩ (Src.of_owned (hm2.get 0 rfl)) (SV.out.below hm2.below) (by omega)).mono ?_; rintro e w3 ⟨rfl, hb3⟩; rw [beq_self_eq_true]; have hm3 := hm2.call hb3; clear hm2)
          | (go_at_call 43; have _t := hm3; refine (unfold_any ((l.length : Int) - 1) _ S _ (srcIn (Src.of_owned (hm3.get 1 rfl))) (by omega) (by omega) (by omega)).mono ?_; rintro e w4 ⟨⟨r4, rfl, ho4⟩, hb4⟩; rw [CV.out]; have hm4 := hm3.call hb4; clear hm3)
          | (go_at_call 33; have _t := hm4; refine (wakes14 _).mono ?_; rintro e w5 ⟨rfl, hb5⟩; have hm5 := hm4.call hb5; clear hm4))
        go_ret
        exact ⟨rfl, hm5.below⟩
      · have hq0 : ((c : Int) == 0) = false := by simpa using hc0
        have hq1 : decide ((c : Int) = 0) = false := decide_eq_false (by omega)
        clear hcond
        go_wp2_with (first
          | (go_at_call 43; have _t := hmr; refine (unfold_any l.length _ S _ (srcIn (Src.of_owned (hmr.get 0 rfl))) (by omega) (by omega) (by omega)).mono ?_; rintro e w2 ⟨⟨r2, rfl, ho2⟩, hb2⟩; rw [CU.out] at ho2; rw [CU.out]; obtain ⟨a2, c2, rfl⟩ := owns_shape0 ho2; have hm2 := hmr.callSl hb2 (by rw [length_vs]; exact ho2); clear hmr ho2)
          | (go_at_call 40; have _t := hm2; refine (ints_any _ _ l l _ ⟨_, _, rfl⟩ ⟨_, _, rfl⟩ (Src.of_owned (hm2.get 0 rfl)) (SV.out.below hm2.below) (by omega)).mono ?_; rintro e w3 ⟨rfl, hb3⟩; rw [beq_self_eq_true]; have hm3 := hm2.call hb3; clear hm2)
          | (go_at_call 43; have _t := hm3; refine (unfold_any ((l.length : Int) - 1) _ S _ (srcIn (Src.of_owned (hm3.get 1 rfl))) (by omega) (by omega) (by omega)).mono ?_; rintro e w4 ⟨⟨r4, rfl, ho4⟩, hb4⟩; rw [CV.out]; have hm4 := hm3.call hb4; clear hm3)
          | (go_at_call 33; have _t := hm4; refine (wakes14 _).mono ?_; rintro e w5 ⟨rfl, hb5⟩; have hm5 := hm4.call hb5; clear hm4))
        go_ret
        exact ⟨rfl, hm5.below⟩
end Go.Proofs.Ytaccjnekonmkoaa
