/-
  The walks of the references winepressref14.Digits, Number and Add.
-/
import Derived.Test.YtaccjnekonmkoaaZrR
namespace Go.Proofs.Ytaccjnekonmkoaa
open Go Go.RowKit

set_option maxRecDepth 100000 in
set_option maxHeartbeats 1000000 in
theorem rdigits_out (m : Int) (w : World) (h : ¬ (0 ≤ m ∧ m ≤ 2147483647)) : Calls Try.prog 35 #[.int .i64 m] w (ListPost w (dgO m) (dgE m)) := by
  rw [dgO, dgE, if_neg h, if_neg h]
  by_cases h0 : m < 0
  · clear h
    go_enter Try.func35, Try.ntmps35
    have hm := Own.nil w
    go_wp2_with fail
    go_ret2
    exact ⟨⟨_, rfl, World.ownsRow_nil _ _ _ _⟩, hm.below⟩
  · have h1 : 2147483647 < m := by omega
    clear h
    go_enter Try.func35, Try.ntmps35
    have hm := Own.nil w
    go_wp2_with fail
    go_ret2
    exact ⟨⟨_, rfl, World.ownsRow_nil _ _ _ _⟩, hm.below⟩
set_option maxRecDepth 100000 in
set_option maxHeartbeats 2000000 in
theorem rdigits_in (m : Nat) (hm31 : m < 2 ^ 31) (w : World) : Calls Try.prog 35 #[.int .i64 m] w (ListPost w (dg m) 0) := by
  have g1 : ¬ (m : Int) < 0 := by omega
  have g2 : ¬ (2147483647 : Int) < m := by omega
  have hlen := len_dg 31 m hm31
  obtain ⟨i3, hE⟩ := el39
  have HE := Lib.hid hE
  clear hE
  go_enter Try.func35, Try.ntmps35
  have hm := (Own.nil w).addNil 3
  go_wp2_with fail
  go_loopw [0, 4] (fun u o wr => ∃ (k : Nat) (out : List Int) (ao : Option Addr) (co : Nat), k < 2 ^ 31 ∧ u = .int .i64 k ∧ o = .slice ao out.length co ∧ dg m = out ++ dg k ∧ Own w wr [] [(.slice ao out.length co, 3, vs .i64 out)]) (fun u _ _ => (intOf u).toNat)
  case atStart => exact ⟨m, [], none, 0, hm31, rfl, rfl, rfl, hm⟩
  case round =>
    obtain ⟨k, out, ao, co, hk, rfl, rfl, hx, hmr⟩ := hrel
    clear hm
    have ho : out.length ≤ 31 := by
      have := congrArg List.length hx
      rw [List.length_append] at this
      omega
    have hle : (vs .i64 out).length ≤ 31 := by rw [length_vs]; exact ho
    by_cases hk0 : k = 0
    · subst hk0
      have HX : Hid (dg m = out) := by show dg m = out; rw [hx, dg_zero, List.append_nil]
      clear hx
      go_wp2_with fail
      go_ret2
      have hg := hmr.get 0 rfl
      dsimp only at hg
      exact ⟨⟨_, rfl, by rw [HX.out]; exact own_len0 hg⟩, hmr.below⟩
    · have hst := dg_step k (by omega)
      have q0 : (0 : Int) < k := by omega
      rcases (by omega : ((k - 1 : Nat) : Int) % 2 = 0 ∨ ((k - 1 : Nat) : Int) % 2 = 1) with hp | hp
      · rw [hst, hp] at hx
        have HX : Hid (dg m = (out ++ [0]) ++ dg ((k - 1) / 2)) := by show _ = _; rw [hx]; simp
        have t1 : (k : Int) % 2 = 1 := by omega
        have t2 : (k : Int).tmod 2 = 1 := by rw [Int.tmod_eq_emod_of_nonneg (by omega)]; exact t1
        clear hx hst
        go_wp2_with (first
          | (refine wpList_build1_o (v := .int .i64 0) hmr rfl rfl HE.out rfl rfl ?_; intro w3 g3 hm3; clear hmr)
          | (refine wpList_append_o 0 hm3 rfl rfl HE.out rfl rfl rfl (Src.one (hm3.row 0 rfl)) (one_list _ rfl) (by simp only [List.length_cons, List.length_nil]; omega) (by simp only [List.length_cons, List.length_nil]; omega) ?_; intro ad4 c4 w4 hm4; simp only [List.set] at hm4; clear hm3))
        go_roundw
        case rel =>
          have e : vs .i64 out ++ [Value.int .i64 0] = vs .i64 (out ++ [0]) := by simp [vs]
          have e2 : (vs .i64 out).length + 1 = (out ++ [0]).length := by simp [length_vs]
          have e3 : (vs .i64 out).length + [Value.int .i64 0].length = (out ++ [0]).length := by simp [length_vs]
          rw [e] at hm4
          refine ⟨(k - 1) / 2, out ++ [0], ad4, c4, by omega, by go_num, by rw [← e2], HX.out, by rw [← e3]; exact hm4.dropRow⟩
        case measure => simp [intOf]; omega
      · rw [hst, hp] at hx
        have HX : Hid (dg m = (out ++ [1]) ++ dg ((k - 2) / 2)) := by show _ = _; rw [hx, show (k - 1) / 2 = (k - 2) / 2 by omega]; simp
        have t1 : (k : Int) % 2 = 0 := by omega
        have t2 : (k : Int).tmod 2 = 0 := by rw [Int.tmod_eq_emod_of_nonneg (by omega)]; exact t1
        have hk2 : 2 ≤ k := by omega
        clear hx hst
        go_wp2_with (first
          | (refine wpList_build1_o (v := .int .i64 1) hmr rfl rfl HE.out rfl rfl ?_; intro w3 g3 hm3; clear hmr)
          | (refine wpList_append_o 0 hm3 rfl rfl HE.out rfl rfl rfl (Src.one (hm3.row 0 rfl)) (one_list _ rfl) (by simp only [List.length_cons, List.length_nil]; omega) (by simp only [List.length_cons, List.length_nil]; omega) ?_; intro ad4 c4 w4 hm4; simp only [List.set] at hm4; clear hm3))
        go_roundw
        case rel =>
          have e : vs .i64 out ++ [Value.int .i64 1] = vs .i64 (out ++ [1]) := by simp [vs]
          have e2 : (vs .i64 out).length + 1 = (out ++ [1]).length := by simp [length_vs]
          have e3 : (vs .i64 out).length + [Value.int .i64 1].length = (out ++ [1]).length := by simp [length_vs]
          rw [e] at hm4
          refine ⟨(k - 2) / 2, out ++ [1], ad4, c4, by omega, by go_num, by rw [← e2], HX.out, by rw [← e3]; exact hm4.dropRow⟩
        case measure => simp [intOf]; omega
theorem rdigits_any (m : Int) (w : World) : Calls Try.prog 35 #[.int .i64 m] w (ListPost w (dgO m) (dgE m)) := by
  by_cases h : 0 ≤ m ∧ m ≤ 2147483647
  · obtain ⟨k, rfl⟩ := Int.eq_ofNat_of_zero_le h.1
    rw [dgO, dgE, if_pos h, if_pos h, Int.toNat_natCast]
    exact rdigits_in k (by omega) w
  · exact rdigits_out m w h

theorem pow2_le {a b : Nat} (h : a ≤ b) : (2 : Int) ^ a ≤ 2 ^ b := by
  have := Nat.pow_le_pow_right (show 0 < 2 by omega) h
  have e1 : ((2 ^ a : Nat) : Int) = (2 : Int) ^ a := by push_cast; rfl
  have e2 : ((2 ^ b : Nat) : Int) = (2 : Int) ^ b := by push_cast; rfl
  rw [← e1, ← e2]; omega
theorem pow2_small {a b : Nat} (h : (2 : Int) ^ a ≤ 2 ^ b) : a ≤ b := by
  by_cases hb : a ≤ b
  · exact hb
  · have := pow2_le (show b + 1 ≤ a by omega)
    have e1 : (2 : Int) ^ (b + 1) = 2 * 2 ^ b := by rw [Int.pow_succ, Int.mul_comm]
    have := pow_pos2 b
    omega
theorem numF_bad {d : Int} {l : List Int} {n : Int} {i : Nat} (h : ¬ (d = 0 ∨ d = 1)) : numF (d :: l) n i = (0, 2) := by
  rw [numF, if_neg (fun he => h (addV_ge he).2.1)]
/-- One step of the reference's loop, against Add. -/
theorem numF_ref {d : Int} (l : List Int) {n : Int} {i : Nat} (hd : d = 0 ∨ d = 1) (h0 : 2 ^ i - 1 ≤ n) (h1 : n ≤ 2147483647) :
    numF (d :: l) n i = if n + (1 + d) * 2 ^ i ≤ 2147483647 then numF l (n + (1 + d) * 2 ^ i) (i + 1) else (0, 2) := by
  have hp := pow_pos2 i
  rw [numF]
  by_cases hs : n + (1 + d) * 2 ^ i ≤ 2147483647
  · have hi : i ≤ 30 := by
      have hw : (2 : Int) ^ i ≤ (1 + d) * 2 ^ i := by rcases hd with rfl | rfl <;> omega
      by_cases hi : i ≤ 30
      · exact hi
      · have := pow2_le (show 31 ≤ i by omega)
        have e : (2 : Int) ^ 31 = 2147483648 := by decide
        omega
    obtain ⟨e1, e2⟩ := add_ok (by omega) hi hd hs
    rw [if_pos e2, if_pos hs, e1]
  · rw [if_neg hs, if_neg (fun he => hs (by have := addV_ge he; omega))]

set_option maxRecDepth 100000 in
set_option maxHeartbeats 2000000 in
/-- **winepressref14.Number**, at every list. -/
theorem rnumber_any (v : Value) (l : List Int) (w : World) (hv : In .i64 w v l) (hl : l.length ≤ 1000) : Calls Try.prog 37 #[v] w (PairPost w (numO l).1 (numO l).2) := by
  obtain ⟨ad, cp, rfl, hc⟩ := hv
  obtain ⟨i3, hE⟩ := el39
  have HE := Lib.hid hE
  have HC := Lib.hid hc
  clear hE hc
  go_enter Try.func37, Try.ntmps37
  have hm := Own.nil w
  go_wp2_with fail
  go_loopw [4, 5, 6] (fun v z u wr => ∃ (k : Nat) (n : Int), k ≤ l.length ∧ v = .int .i64 n ∧ z = .int .i64 (2 ^ k) ∧ u = .int .i64 k ∧ 2 ^ k - 1 ≤ n ∧ n ≤ 2147483647 ∧ numO l = numF (l.drop k) n k ∧ Own w wr [] []) (fun _ _ u _ => l.length - (intOf u).toNat)
  case atStart => exact ⟨0, 0, by omega, rfl, rfl, rfl, by decide, by omega, rfl, hm⟩
  case round =>
    obtain ⟨k, n, hk, rfl, rfl, rfl, hlo, hhi, hx, hmr⟩ := hrel
    clear hm
    have hpp := pow_pos2 k
    have hk31 : k ≤ 31 := pow2_small (by have e : (2 : Int) ^ 31 = 2147483648 := by decide
                                         omega)
    have hp31 := pow2_le hk31
    have e31 : (2 : Int) ^ 31 = 2147483648 := by decide
    rw [e31] at hp31
    have HPS : Hid ((2 : Int) ^ (k + 1) = 2 * 2 ^ k) := by show _ = _; rw [Int.pow_succ, Int.mul_comm]
    clear e31
    by_cases hlt : k < l.length
    · obtain ⟨A, rfl, hA0⟩ := HC.out k hlt
      have hA : wr.cell? (A.add k) = some (.int .i64 (gi l k)) := (hmr.below.cell (block_lt_of_cell hA0)).trans hA0
      rw [drop_cons0 l k hlt] at hx
      clear hA0
      by_cases hd : gi l k = 0
      · rw [hd, numF_ref _ (by omega) hlo hhi] at hx
        rw [hd] at hA
        have es : n + (1 + 0) * (2 : Int) ^ k = n + 2 ^ k := by omega
        rw [es] at hx
        clear hd
        generalize (2 : Int) ^ k = q at *
        by_cases hs : n + q ≤ 2147483647
        · rw [if_pos hs] at hx
          have f1 : ¬ (2147483647 : Int) < n + q := by omega
          have HX := Lib.hid hx
          clear hx es
          go_wp2_with (first
            | (refine wpList_run rfl (exec_indexAddr_sl rfl HE.out rfl rfl rfl hlt) ?_)
            | (refine wpList_run rfl (exec_loadaddr rfl rfl one3 hA) ?_))
          go_roundw
          case rel => exact ⟨k + 1, n + q, by omega, by go_num, by rw [HPS.out], by go_num, by rw [HPS.out]; omega, hs, HX.out, hmr⟩
          case measure => simp [intOf]; omega
        · rw [if_neg hs] at hx
          have f1 : (2147483647 : Int) < n + q := by omega
          have HX := Lib.hid hx
          clear hx es
          go_wp2_with (first
            | (refine wpList_run rfl (exec_indexAddr_sl rfl HE.out rfl rfl rfl hlt) ?_)
            | (refine wpList_run rfl (exec_loadaddr rfl rfl one3 hA) ?_))
          go_ret2
          exact ⟨by rw [HX.out]; rfl, hmr.below⟩
      by_cases hd1 : gi l k = 1
      · have hd := hd1
        rw [hd, numF_ref _ (by omega) hlo hhi] at hx
        rw [hd] at hA
        have es : n + (1 + 1) * (2 : Int) ^ k = n + 2 * 2 ^ k := by omega
        rw [es] at hx
        clear hd
        generalize (2 : Int) ^ k = q at *
        by_cases hs : n + 2 * q ≤ 2147483647
        · rw [if_pos hs] at hx
          have f1 : ¬ (2147483647 : Int) < n + 2 * q := by omega
          have HX := Lib.hid hx
          clear hx es
          go_wp2_with (first
            | (refine wpList_run rfl (exec_indexAddr_sl rfl HE.out rfl rfl rfl hlt) ?_)
            | (refine wpList_run rfl (exec_loadaddr rfl rfl one3 hA) ?_))
          go_roundw
          case rel => exact ⟨k + 1, n + 2 * q, by omega, by go_num, by rw [HPS.out], by go_num, by rw [HPS.out]; omega, hs, HX.out, hmr⟩
          case measure => simp [intOf]; omega
        · rw [if_neg hs] at hx
          have f1 : (2147483647 : Int) < n + 2 * q := by omega
          have HX := Lib.hid hx
          clear hx es
          go_wp2_with (first
            | (refine wpList_run rfl (exec_indexAddr_sl rfl HE.out rfl rfl rfl hlt) ?_)
            | (refine wpList_run rfl (exec_loadaddr rfl rfl one3 hA) ?_))
          go_ret2
          exact ⟨by rw [HX.out]; rfl, hmr.below⟩
      · rw [numF_bad (fun h => h.elim hd hd1)] at hx
        have HX := Lib.hid hx
        clear hx
        generalize gi l k = x at *
        have d1 : (x == 0) = false := by simpa using hd
        have d2 : (x == 1) = false := by simpa using hd1
        have d3 : decide (x = 0) = false := decide_eq_false hd
        have d4 : decide (x = 1) = false := decide_eq_false hd1
        have d5 : (x != 0) = true := by simpa using hd
        have d6 : (x != 1) = true := by simpa using hd1
        generalize (2 : Int) ^ k = q at *
        go_wp2_with (first
          | (refine wpList_run rfl (exec_indexAddr_sl rfl HE.out rfl rfl rfl hlt) ?_)
          | (refine wpList_run rfl (exec_loadaddr rfl rfl one3 hA) ?_))
        go_ret2
        exact ⟨by rw [HX.out]; rfl, hmr.below⟩
    · obtain rfl : k = l.length := by omega
      have HX : Hid (numO l = (n, 0)) := by show numO l = _; rw [hx, List.drop_length]; rfl
      clear hx
      generalize (2 : Int) ^ l.length = q at *
      go_wp2_with fail
      go_ret2
      exact ⟨by rw [HX.out]; rfl, hmr.below⟩
set_option maxRecDepth 100000 in
set_option maxHeartbeats 1000000 in
theorem radd_f0 (n k d : Int) (w : World) (g0 : n < 0) : Calls Try.prog 39 #[.int .i64 n, .int .i64 k, .int .i64 d] w (PairPost w 0 2) := by
  go_enter Try.func39, Try.ntmps39
  have hm := Own.nil w
  go_wp2_with fail
  go_ret2
  exact ⟨rfl, hm.below⟩
set_option maxRecDepth 100000 in
set_option maxHeartbeats 1000000 in
theorem radd_f2 (n k d : Int) (w : World) (g0 : ¬ n < 0) (g2 : k < 0) : Calls Try.prog 39 #[.int .i64 n, .int .i64 k, .int .i64 d] w (PairPost w 0 2) := by
  go_enter Try.func39, Try.ntmps39
  have hm := Own.nil w
  go_wp2_with fail
  go_ret2
  exact ⟨rfl, hm.below⟩
set_option maxRecDepth 100000 in
set_option maxHeartbeats 1000000 in
theorem radd_f3 (n k d : Int) (w : World) (g0 : ¬ n < 0) (g2 : ¬ k < 0) (g3 : 30 < k) : Calls Try.prog 39 #[.int .i64 n, .int .i64 k, .int .i64 d] w (PairPost w 0 2) := by
  go_enter Try.func39, Try.ntmps39
  have hm := Own.nil w
  go_wp2_with fail
  go_ret2
  exact ⟨rfl, hm.below⟩
set_option maxRecDepth 100000 in
set_option maxHeartbeats 1000000 in
theorem radd_f4 (n k d : Int) (w : World) (g0 : ¬ n < 0) (g2 : ¬ k < 0) (g3 : ¬ 30 < k) (g4 : ¬ d = 0) (g5 : ¬ d = 1) : Calls Try.prog 39 #[.int .i64 n, .int .i64 k, .int .i64 d] w (PairPost w 0 2) := by
  have b6 : (d != 0) = true := by simpa using g4
  have b7 : (d != 1) = true := by simpa using g5
  go_enter Try.func39, Try.ntmps39
  have hm := Own.nil w
  go_wp2_with fail
  go_ret2
  exact ⟨rfl, hm.below⟩
set_option maxRecDepth 100000 in
set_option maxHeartbeats 1000000 in
theorem radd_f10 (n k d : Int) (w : World) (g0 : ¬ n < 0) (g2 : ¬ k < 0) (g3 : ¬ 30 < k) (g4 : d = 0) (g1 : 2147483647 < n) : Calls Try.prog 39 #[.int .i64 n, .int .i64 k, .int .i64 d] w (PairPost w 0 2) := by
  subst g4
  go_enter Try.func39, Try.ntmps39
  have hm := Own.nil w
  go_wp2_with fail
  go_ret2
  exact ⟨rfl, hm.below⟩
set_option maxRecDepth 100000 in
set_option maxHeartbeats 1000000 in
theorem radd_f11 (n k d : Int) (w : World) (g0 : ¬ n < 0) (g2 : ¬ k < 0) (g3 : ¬ 30 < k) (g4 : d = 1) (g1 : 2147483647 < n) : Calls Try.prog 39 #[.int .i64 n, .int .i64 k, .int .i64 d] w (PairPost w 0 2) := by
  subst g4
  go_enter Try.func39, Try.ntmps39
  have hm := Own.nil w
  go_wp2_with fail
  go_ret2
  exact ⟨rfl, hm.below⟩
set_option maxRecDepth 100000 in
set_option maxHeartbeats 1000000 in
theorem radd_0 (n : Int) (k : Nat) (w : World) (b1 : ¬ n < 0) (b2 : ¬ 2147483647 < n) (hk : k ≤ 30) : Calls Try.prog 39 #[.int .i64 n, .int .i64 k, .int .i64 0] w (PairPost w (addV n k 0) (addE n k 0)) := by
  have b3 : ¬ (k : Int) < 0 := by omega
  have b4 : ¬ (30 : Int) < k := by omega
  have ha : addOk n k 0 := ⟨by omega, by omega, by omega, by omega, by omega⟩
  have HV : Hid (addV n k 0 = if n + (1 + 0) * 2 ^ k ≤ 2147483647 then n + (1 + 0) * 2 ^ k else 0) := by
    show _ = _
    rw [addV, addS_step]
    by_cases h : n + (1 + 0) * 2 ^ k ≤ 2147483647
    · rw [if_pos ⟨ha, h⟩, if_pos h]
    · rw [if_neg (fun q => h q.2), if_neg h]
  have HE : Hid (addE n k 0 = if n + (1 + 0) * 2 ^ k ≤ 2147483647 then 0 else 2) := by
    show _ = _
    rw [addE, addS_step]
    by_cases h : n + (1 + 0) * 2 ^ k ≤ 2147483647
    · rw [if_pos ⟨ha, h⟩, if_pos h]
    · rw [if_neg (fun q => h q.2), if_neg h]
  clear ha
  generalize addV n k 0 = V at *
  generalize addE n k 0 = E at *
  go_enter Try.func39, Try.ntmps39
  have hm := Own.nil w
  go_wp2_with fail
  go_loopw [2, 8] (fun d u wr => ∃ (i : Nat) (D : Int), i ≤ k ∧ d = .int .i64 D ∧ u = .int .i64 i ∧ D + 1 = (1 + 0) * 2 ^ i ∧ Own w wr [] []) (fun _ u _ => k - (intOf u).toNat)
  case atStart => exact ⟨0, 0, by omega, rfl, rfl, by decide, hm⟩
  case round =>
    obtain ⟨i, D, hi, rfl, rfl, hD, hmr⟩ := hrel
    clear hm
    have hpp := pow_pos2 i
    have hp31 := pow2_le (show i ≤ 30 by omega)
    have e31 : (2 : Int) ^ 30 = 1073741824 := by decide
    rw [e31] at hp31
    have HPS : Hid ((2 : Int) ^ (i + 1) = 2 * 2 ^ i) := by show _ = _; rw [Int.pow_succ, Int.mul_comm]
    clear e31
    by_cases hlt : i < k
    · generalize (2 : Int) ^ i = q at *
      have HD : Hid (D + 1 = (1 + 0) * q) := hD
      have d0 : 0 ≤ D := by omega
      have d1 : D ≤ 2147483648 := by omega
      clear hD
      go_wp2_with fail
      go_roundw
      case rel => exact ⟨i + 1, 2 * D + 1, by omega, by go_num, by go_num, by rw [HPS.out]; have := HD.out; omega, hmr⟩
      case measure => simp [intOf]; omega
    · obtain rfl : i = k := by omega
      have hs0 : n + D + 1 = n + (1 + 0) * 2 ^ i := by omega
      rw [← hs0] at HV HE
      have d0 : 0 ≤ D := by omega
      have d1 : D ≤ 2147483648 := by omega
      clear hs0 hD HPS
      generalize (2 : Int) ^ i = q at *
      by_cases hs : n + D + 1 ≤ 2147483647
      · have f1 : ¬ (2147483647 : Int) < n + D + 1 := by omega
        have HV2 : Hid (V = n + D + 1) := by show _ = _; rw [HV.out, if_pos hs]
        have HE2 : Hid (E = 0) := by show _ = _; rw [HE.out, if_pos hs]
        go_wp2_with fail
        go_ret2
        exact ⟨by rw [HV2.out, HE2.out]; go_num, hmr.below⟩
      · have f1 : (2147483647 : Int) < n + D + 1 := by omega
        have HV2 : Hid (V = 0) := by show _ = _; rw [HV.out, if_neg hs]
        have HE2 : Hid (E = 2) := by show _ = _; rw [HE.out, if_neg hs]
        go_wp2_with fail
        go_ret2
        exact ⟨by rw [HV2.out, HE2.out]; rfl, hmr.below⟩
set_option maxRecDepth 100000 in
set_option maxHeartbeats 1000000 in
theorem radd_1 (n : Int) (k : Nat) (w : World) (b1 : ¬ n < 0) (b2 : ¬ 2147483647 < n) (hk : k ≤ 30) : Calls Try.prog 39 #[.int .i64 n, .int .i64 k, .int .i64 1] w (PairPost w (addV n k 1) (addE n k 1)) := by
  have b3 : ¬ (k : Int) < 0 := by omega
  have b4 : ¬ (30 : Int) < k := by omega
  have ha : addOk n k 1 := ⟨by omega, by omega, by omega, by omega, by omega⟩
  have HV : Hid (addV n k 1 = if n + (1 + 1) * 2 ^ k ≤ 2147483647 then n + (1 + 1) * 2 ^ k else 0) := by
    show _ = _
    rw [addV, addS_step]
    by_cases h : n + (1 + 1) * 2 ^ k ≤ 2147483647
    · rw [if_pos ⟨ha, h⟩, if_pos h]
    · rw [if_neg (fun q => h q.2), if_neg h]
  have HE : Hid (addE n k 1 = if n + (1 + 1) * 2 ^ k ≤ 2147483647 then 0 else 2) := by
    show _ = _
    rw [addE, addS_step]
    by_cases h : n + (1 + 1) * 2 ^ k ≤ 2147483647
    · rw [if_pos ⟨ha, h⟩, if_pos h]
    · rw [if_neg (fun q => h q.2), if_neg h]
  clear ha
  generalize addV n k 1 = V at *
  generalize addE n k 1 = E at *
  go_enter Try.func39, Try.ntmps39
  have hm := Own.nil w
  go_wp2_with fail
  go_loopw [2, 8] (fun d u wr => ∃ (i : Nat) (D : Int), i ≤ k ∧ d = .int .i64 D ∧ u = .int .i64 i ∧ D + 1 = (1 + 1) * 2 ^ i ∧ Own w wr [] []) (fun _ u _ => k - (intOf u).toNat)
  case atStart => exact ⟨0, 1, by omega, rfl, rfl, by decide, hm⟩
  case round =>
    obtain ⟨i, D, hi, rfl, rfl, hD, hmr⟩ := hrel
    clear hm
    have hpp := pow_pos2 i
    have hp31 := pow2_le (show i ≤ 30 by omega)
    have e31 : (2 : Int) ^ 30 = 1073741824 := by decide
    rw [e31] at hp31
    have HPS : Hid ((2 : Int) ^ (i + 1) = 2 * 2 ^ i) := by show _ = _; rw [Int.pow_succ, Int.mul_comm]
    clear e31
    by_cases hlt : i < k
    · generalize (2 : Int) ^ i = q at *
      have HD : Hid (D + 1 = (1 + 1) * q) := hD
      have d0 : 0 ≤ D := by omega
      have d1 : D ≤ 2147483648 := by omega
      clear hD
      go_wp2_with fail
      go_roundw
      case rel => exact ⟨i + 1, 2 * D + 1, by omega, by go_num, by go_num, by rw [HPS.out]; have := HD.out; omega, hmr⟩
      case measure => simp [intOf]; omega
    · obtain rfl : i = k := by omega
      have hs0 : n + D + 1 = n + (1 + 1) * 2 ^ i := by omega
      rw [← hs0] at HV HE
      have d0 : 0 ≤ D := by omega
      have d1 : D ≤ 2147483648 := by omega
      clear hs0 hD HPS
      generalize (2 : Int) ^ i = q at *
      by_cases hs : n + D + 1 ≤ 2147483647
      · have f1 : ¬ (2147483647 : Int) < n + D + 1 := by omega
        have HV2 : Hid (V = n + D + 1) := by show _ = _; rw [HV.out, if_pos hs]
        have HE2 : Hid (E = 0) := by show _ = _; rw [HE.out, if_pos hs]
        go_wp2_with fail
        go_ret2
        exact ⟨by rw [HV2.out, HE2.out]; go_num, hmr.below⟩
      · have f1 : (2147483647 : Int) < n + D + 1 := by omega
        have HV2 : Hid (V = 0) := by show _ = _; rw [HV.out, if_neg hs]
        have HE2 : Hid (E = 2) := by show _ = _; rw [HE.out, if_neg hs]
        go_wp2_with fail
        go_ret2
        exact ⟨by rw [HV2.out, HE2.out]; rfl, hmr.below⟩
theorem radd_any (n k d : Int) (w : World) : Calls Try.prog 39 #[.int .i64 n, .int .i64 k, .int .i64 d] w (PairPost w (addV n k d) (addE n k d)) := by
  by_cases ha : addOk n k d
  · obtain ⟨h1, h2, h3, h4, hd⟩ := ha
    obtain ⟨k, rfl⟩ := Int.eq_ofNat_of_zero_le h3
    rcases hd with rfl | rfl
    · exact radd_0 n k w (by omega) (by omega) (by omega)
    · exact radd_1 n k w (by omega) (by omega) (by omega)
  · rw [addV, addE, if_neg (fun h => ha h.1), if_neg (fun h => ha h.1)]
    by_cases g0 : n < 0
    · exact radd_f0 n k d w g0
    by_cases g2 : k < 0
    · exact radd_f2 n k d w g0 g2
    by_cases g3 : 30 < k
    · exact radd_f3 n k d w g0 g2 g3
    by_cases g4 : d = 0
    · exact radd_f10 n k d w g0 g2 g3 g4 (by
        by_cases g1 : 2147483647 < n
        · exact g1
        · exact absurd ⟨by omega, by omega, by omega, by omega, .inl g4⟩ ha)
    by_cases g5 : d = 1
    · exact radd_f11 n k d w g0 g2 g3 g5 (by
        by_cases g1 : 2147483647 < n
        · exact g1
        · exact absurd ⟨by omega, by omega, by omega, by omega, .inr g5⟩ ha)
    exact radd_f4 n k d w g0 g2 g3 g4 g5
end Go.Proofs.Ytaccjnekonmkoaa
