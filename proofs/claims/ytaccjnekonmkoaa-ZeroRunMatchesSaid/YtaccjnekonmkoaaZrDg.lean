/-
  The walk of winepresslaw14.ZeroRunDigits.
-/
import Derived.Test.YtaccjnekonmkoaaZrP
import Derived.Test.YtaccjnekonmkoaaZrW
namespace Go.Proofs.Ytaccjnekonmkoaa
open Go Go.RowKit

theorem srcIn {w : World} {k : IntKind} {v : Value} {l : List Int} (h : Src w v (vs k l)) : In k w v l := by
  rcases h with ⟨rfl, h0⟩ | ⟨A, c, rfl, hc⟩
  · have hl : l = [] := by simpa [vs] using h0
    subst hl
    exact ⟨none, 0, rfl, fun i hi => absurd hi (by simp)⟩
  · refine ⟨some A, c, by rw [length_vs], fun i hi => ⟨A, rfl, hc i _ ?_⟩⟩
    simp [vs, gi, List.getD_eq_getElem?_getD, List.getElem?_eq_getElem hi]
theorem dig_gi {l : List Int} (h : Dig l) {i : Nat} (hi : i < l.length) : gi l i = 0 ∨ gi l i = 1 := by
  have e : gi l i = l[i] := by simp [gi, List.getD_eq_getElem?_getD, List.getElem?_eq_getElem hi]
  rw [e]
  exact h _ (List.getElem_mem hi)

set_option maxRecDepth 100000 in
set_option maxHeartbeats 2000000 in
theorem zrdigits_out (n : Int) (w : World) (h : ¬ (0 ≤ n ∧ n ≤ 2147483647)) : Calls Try.prog 11 #[.int .i64 n] w fun e w' => e = .returned (.bool true) ∧ Below w.heap.size w w' := by
  have D1 : Hid (dgO n = []) := by show dgO n = []; rw [dgO, if_neg h]
  have D2 : Hid (dgE n = 2) := by show dgE n = 2; rw [dgE, if_neg h]
  by_cases h0 : n < 0
  · clear h
    go_enter Try.func11, Try.ntmps11
    have hm := Own.nil w
    go_wp2_with (first
      | (go_at_call 34; have _t := hm; refine (digits_any n _).mono ?_; rintro e w1 ⟨⟨r1, rfl, ho1⟩, hb1⟩; rw [D1.out] at ho1; rw [D2.out]; obtain ⟨a1, c1, rfl⟩ := owns_shape0 ho1; have hm1 := hm.call hb1; clear hm)
      | (go_at_call 33; have _t := hm1; refine (wakes14 _).mono ?_; rintro e w2 ⟨rfl, hb2⟩; have hm2 := hm1.call hb2; clear hm1))
    go_ret
    exact ⟨rfl, hm2.below⟩
  · have h1 : 2147483647 < n := by omega
    clear h
    go_enter Try.func11, Try.ntmps11
    have hm := Own.nil w
    go_wp2_with (first
      | (go_at_call 34; have _t := hm; refine (digits_any n _).mono ?_; rintro e w1 ⟨⟨r1, rfl, ho1⟩, hb1⟩; rw [D1.out] at ho1; rw [D2.out]; obtain ⟨a1, c1, rfl⟩ := owns_shape0 ho1; have hm1 := hm.call hb1; clear hm)
      | (go_at_call 33; have _t := hm1; refine (wakes14 _).mono ?_; rintro e w2 ⟨rfl, hb2⟩; have hm2 := hm1.call hb2; clear hm1))
    go_ret
    exact ⟨rfl, hm2.below⟩

set_option maxRecDepth 100000 in
set_option maxHeartbeats 4000000 in
theorem zrdigits_in (m : Nat) (w : World) (hm31 : m < 2 ^ 31) : Calls Try.prog 11 #[.int .i64 m] w fun e w' => e = .returned (.bool true) ∧ Below w.heap.size w w' := by
  have hr : 0 ≤ (m : Int) ∧ (m : Int) ≤ 2147483647 := by omega
  have D1 : Hid (dgO m = dg m) := by show dgO m = _; rw [dgO, if_pos hr, Int.toNat_natCast]
  have D2 : Hid (dgE m = 0) := by show dgE m = 0; rw [dgE, if_pos hr]
  have NM : Hid (numO (dg m) = ((m : Int), 0)) := num_dg m hm31
  have hlen := len_dg 31 m hm31
  have VD : Hid (val 0 (dg m) = m) := by show val 0 (dg m) = m; rw [val_dg m m (Nat.le_refl _) 0]; simp
  have DG := Lib.hid (dig_dg m m (Nat.le_refl _))
  have BL : Hid (bl (m + 1) = (dg m).length + 1) := by show bl (m + 1) = _; rw [bl, if_neg (by omega), Nat.add_sub_cancel]
  have g1 : ¬ (m : Int) < 0 := by omega
  have g2 : ¬ (2147483647 : Int) < m := by omega
  generalize hl : dg m = l at *
  clear hl hr
  obtain ⟨i3, hE⟩ := el39
  have HE := Lib.hid hE
  clear hE
  go_enter Try.func11, Try.ntmps11
  have hm := Own.nil w
  go_wp2_with (first
    | (go_at_call 34; have _t := hm; refine (digits_any m _).mono ?_; rintro e w1 ⟨⟨r1, rfl, ho1⟩, hb1⟩; rw [D1.out] at ho1; rw [D2.out]; obtain ⟨a1, c1, rfl⟩ := owns_shape0 ho1; have hm1 := hm.callSl hb1 (by rw [length_vs]; exact ho1); clear hm ho1))
  go_loopw [5, 6] (fun b u wr => ∃ k : Nat, ∃ c : Nat, b = .int .i64 c ∧ u = .int .i64 k ∧ k ≤ 2 ^ 31 ∧ c + bl k = l.length + 1 ∧ Own w wr [] [(.slice a1 l.length c1, 3, vs .i64 l)]) (fun _ u _ => (intOf u).toNat)
  case atStart => exact ⟨m + 1, 0, rfl, by go_num, by omega, by rw [BL.out]; omega, hm1⟩
  case round =>
    obtain ⟨k, c, rfl, rfl, hk, hc, hmr⟩ := hrel
    clear hm1
    by_cases hk0 : 0 < k
    · have hst := bl_step k hk0
      have q1 : IntKind.i64.wrap ((c : Int) + 1) = ((c + 1 : Nat) : Int) := by rw [IntWalk.i64_in _ (by omega)]; omega
      have q2 : (0 : Int) < k := by omega
      go_wp2_with fail
      go_roundw
      case rel => exact ⟨k / 2, c + 1, by go_num, by go_num, by omega, by omega, hmr⟩
      case measure => simp [intOf]; omega
    · obtain rfl : k = 0 := by omega
      have hc2 : c = l.length + 1 := by have : bl 0 = 0 := rfl; omega
      subst hc2
      clear hc hk hk0
      have q1 : IntKind.i64.wrap (((l.length + 1 : Nat) : Int) - 1) = (l.length : Int) := by rw [IntWalk.i64_in _ (by omega)]; omega
      generalize hB : ((l.length + 1 : Nat) : Int) = B at *
      clear hB
      go_wp2_with (first
        | (go_at_call 36; have _t := hmr; refine (number_any _ l _ (srcIn (Src.of_owned (hmr.get 0 rfl))) (by omega)).mono ?_; rintro e w2 ⟨rfl, hb2⟩; rw [NM.out]; have hm2 := hmr.call hb2; clear hmr))
      go_loopw [9, 10] (fun s u wr => ∃ i : Nat, ∃ sum : Int, i ≤ l.length ∧ s = .int .i64 sum ∧ u = .int .i64 i ∧ 0 ≤ sum ∧ sum + val i (l.drop i) = m ∧ Own w wr [] [(.slice a1 l.length c1, 3, vs .i64 l)]) (fun _ u _ => l.length - (intOf u).toNat)
      case atStart => exact ⟨0, 0, by omega, rfl, rfl, by omega, by rw [List.drop_zero, VD.out]; omega, hm2⟩
      case round =>
        obtain ⟨i, sum, hi, rfl, rfl, hs0, hsum, hmr⟩ := hrel
        clear hm2
        by_cases hlt : i < l.length
        · obtain ⟨A, rfl⟩ := SrcSome (Src.of_owned (hmr.get 0 rfl)) hlt
          have hcell := SrcAt (Src.of_owned (hmr.get 0 rfl)) (get_vs .i64 l i hlt)
          have hd := dig_gi DG.out hlt
          rw [drop_cons0 l i hlt, val] at hsum
          have hv := val_pos (l.drop (i + 1)) (i + 1) (fun x hx => DG.out x (List.mem_of_mem_drop hx))
          have hw := dig_worth i hd
          obtain ⟨e1, e2⟩ := add_ok hs0 (by omega : i ≤ 30) hd (by omega : sum + (1 + gi l i) * 2 ^ i ≤ 2147483647)
          have CA : Hid (∀ w, Calls Try.prog 38 #[.int .i64 sum, .int .i64 i, .int .i64 (gi l i)] w (PairPost w (addV sum i (gi l i)) (addE sum i (gi l i)))) := fun w => add_any sum i (gi l i) w
          rw [e1, e2] at CA
          clear e1 e2 hd
          generalize gi l i = x at *
          generalize hM : sum + (1 + x) * 2 ^ i = M at *
          have f1 : ¬ M ≤ sum := by omega
          have f2 : ¬ (m : Int) < M := by omega
          have f3 : decide (M ≤ sum) = false := decide_eq_false f1
          have f4 : decide ((m : Int) < M) = false := decide_eq_false f2
          have HR : Hid (M + val (i + 1) (l.drop (i + 1)) = m) := by show _ = _; omega
          have HM0 : Hid (0 ≤ M) := by show 0 ≤ M; omega
          clear hsum hv hw hM
          go_wp2_with (first
            | (refine wpList_run rfl (exec_indexAddr_sl rfl HE.out rfl rfl rfl hlt) ?_)
            | (refine wpList_run rfl (exec_loadaddr rfl rfl one3 hcell) ?_)
            | (go_at_call 38; have _t := hmr; refine (CA.out _).mono ?_; rintro e w3 ⟨rfl, hb3⟩; have hm3 := hmr.call hb3; clear hmr))
          go_roundw
          case rel => exact ⟨i + 1, M, by omega, rfl, by go_num, HM0.out, HR.out, hm3⟩
          case measure => simp [intOf]; omega
        · obtain rfl : i = l.length := by omega
          have hfin : sum = m := by rw [List.drop_length, val] at hsum; omega
          subst hfin
          clear hsum
          go_wp2_with (first
            | (go_at_call 33; have _t := hmr; refine (wakes14 _).mono ?_; rintro e w4 ⟨rfl, hb4⟩; have hm4 := hmr.call hb4; clear hmr))
          go_ret
          exact ⟨rfl, hm4.below⟩
theorem zrdigits (n : Int) (w : World) : Calls Try.prog 11 #[.int .i64 n] w fun e w' => e = .returned (.bool true) ∧ Below w.heap.size w w' := by
  by_cases h : 0 ≤ n ∧ n ≤ 2147483647
  · obtain ⟨k, rfl⟩ := Int.eq_ofNat_of_zero_le h.1
    exact zrdigits_in k w (by omega)
  · exact zrdigits_out n w h
end Go.Proofs.Ytaccjnekonmkoaa
