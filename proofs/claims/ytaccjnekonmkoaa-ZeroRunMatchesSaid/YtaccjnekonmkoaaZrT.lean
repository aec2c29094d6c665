/-
  The walk of the reference winepressref14.Fold.
-/
import Derived.Test.YtaccjnekonmkoaaZrS
namespace Go.Proofs.Ytaccjnekonmkoaa
open Go Go.RowKit

theorem fgo_run {l : List Int} {i k : Nat} {out : List Int} (hik : i ≤ k) (hk : k ≤ l.length) (hz : ∀ j, i ≤ j → j < k → gi l j = 0) (he : k < l.length → gi l k ≠ 0) : fgo (l.drop i) 0 out = fgo (l.drop k) 0 (out ++ dg (k - i)) := by
  rw [seg_split hik, seg_zeros hk hz, fgo_zeros, Nat.zero_add, fgo_flush]
  intro p t h
  by_cases hlt : k < l.length
  · rw [drop_cons0 l k hlt] at h
    injection h with h1 _
    rw [← h1]
    exact he hlt
  · rw [List.drop_of_length_le (by omega)] at h
    cases h

set_option maxRecDepth 100000 in
set_option maxHeartbeats 4000000 in
/-- **winepressref14.Fold**, at every list. -/
theorem rfold_any (v : Value) (l : List Int) (w : World) (hv : In .i64 w v l) (hl : l.length ≤ 3000) : Calls Try.prog 42 #[v] w (ListPost w (foldO l).1 (foldO l).2) := by
  obtain ⟨ad, cp, rfl, hc⟩ := hv
  obtain ⟨i3, hE⟩ := el39
  have HE := Lib.hid hE
  have HC := Lib.hid hc
  clear hE hc
  go_enter Try.func42, Try.ntmps42
  have hm := (Own.nil w).addNil 3
  go_wp2_with fail
  go_loopw [4, 5] (fun o u wr => ∃ (i : Nat) (out : List Int) (ao : Option Addr) (co : Nat), i ≤ l.length ∧ o = .slice ao out.length co ∧ u = .int .i64 i ∧ out.length ≤ 32 * i ∧ foldO l = fgo (l.drop i) 0 out ∧ Own w wr [] [(.slice ao out.length co, 3, vs .i64 out)]) (fun _ u _ => l.length - (intOf u).toNat)
  case atStart => exact ⟨0, [], none, 0, by omega, rfl, rfl, by simp, rfl, hm⟩
  case round =>
    obtain ⟨i, out, ao, co, hi, rfl, rfl, hout, hx, hmr⟩ := hrel
    clear hm
    have hle : (vs .i64 out).length ≤ 96000 := by rw [length_vs]; omega
    by_cases hlt : i < l.length
    · obtain ⟨A, rfl, hA0⟩ := HC.out i hlt
      have hA : wr.cell? (A.add i) = some (.int .i64 (gi l i)) := (hmr.below.cell (block_lt_of_cell hA0)).trans hA0
      by_cases hlo : gi l i < 0
      · have HX : Hid (foldO l = ([], 2)) := by show _ = _; rw [hx, fgo_step l i hlt, if_pos (.inl hlo)]
        clear hx
        go_wp2_with (first
          | (refine wpList_run rfl (exec_indexAddr_sl rfl HE.out rfl rfl rfl hlt) ?_)
          | (refine wpList_run rfl (exec_loadaddr rfl rfl one3 hA) ?_))
        go_ret2
        exact ⟨⟨_, by rw [HX.out]; rfl, by rw [HX.out]; exact World.ownsRow_nil _ _ _ _⟩, hmr.below⟩
      by_cases hhi : 255 < gi l i
      · have HX : Hid (foldO l = ([], 2)) := by show _ = _; rw [hx, fgo_step l i hlt, if_pos (.inr hhi)]
        clear hx
        go_wp2_with (first
          | (refine wpList_run rfl (exec_indexAddr_sl rfl HE.out rfl rfl rfl hlt) ?_)
          | (refine wpList_run rfl (exec_loadaddr rfl rfl one3 hA) ?_))
        go_ret2
        exact ⟨⟨_, by rw [HX.out]; rfl, by rw [HX.out]; exact World.ownsRow_nil _ _ _ _⟩, hmr.below⟩
      have HX0 := Lib.hid hx
      clear hx
      go_wp2_with (first
        | (refine wpList_run rfl (exec_indexAddr_sl rfl HE.out rfl rfl rfl hlt) ?_)
        | (refine wpList_run rfl (exec_loadaddr rfl rfl one3 hA) ?_))
      go_loopw [6] (fun z wq => ∃ k : Nat, i ≤ k ∧ k ≤ l.length ∧ z = .int .i64 k ∧ Hid (∀ j, i ≤ j → j < k → gi l j = 0) ∧ Own w wq [] [(.slice ao out.length co, 3, vs .i64 out)]) (fun z _ => l.length - (intOf z).toNat)
      case atStart => exact ⟨i, by omega, by omega, rfl, Lib.hid (fun j h1 h2 => absurd h2 (by omega)), hmr⟩
      case round =>
        obtain ⟨k, hik, hkl, rfl, HZ, hmq⟩ := hrel
        clear hmr hA
        by_cases hstop : k < l.length ∧ gi l k = 0
        · obtain ⟨hkl2, hz⟩ := hstop
          obtain ⟨A', hA', hB0⟩ := HC.out k hkl2
          obtain rfl : A = A' := by injection hA'
          have hB : wr.cell? (A.add k) = some (.int .i64 0) := by rw [hmq.below.cell (block_lt_of_cell hB0), hB0, hz]
          have HZ2 : Hid (∀ j, i ≤ j → j < k + 1 → gi l j = 0) := Lib.hid (fun j h1 h2 => by
            by_cases e : j = k
            · rw [e, hz]
            · exact HZ.out j h1 (by omega))
          clear hA' hB0 hz
          go_wp2_with (first
            | (refine wpList_run rfl (exec_indexAddr_sl rfl HE.out rfl rfl rfl hkl2) ?_)
            | (refine wpList_run rfl (exec_loadaddr rfl rfl one3 hB) ?_))
          go_roundw
          case rel => exact ⟨k + 1, by omega, by omega, by go_num, HZ2, hmq⟩
          case measure => simp [intOf]; omega
        · have HS : Hid (k < l.length → gi l k ≠ 0) := Lib.hid (fun h1 h2 => hstop ⟨h1, h2⟩)
          clear hstop
          by_cases hki : k = i
          · subst hki
            have hne := HS.out hlt
            have HX : Hid (foldO l = fgo (l.drop (k + 1)) 0 (out ++ [gi l k + 1])) := by
              show _ = _
              rw [HX0.out, fgo_step l k hlt, if_neg (by omega), if_neg hne, dg_zero, List.append_nil]
            obtain ⟨A', hA', hB0⟩ := HC.out k hlt
            obtain rfl : A = A' := by injection hA'
            have hB : wr.cell? (A.add k) = some (.int .i64 (gi l k)) := (hmq.below.cell (block_lt_of_cell hB0)).trans hB0
            clear hA' hB0 HX0 HS HZ
            generalize gi l k = x at *
            have d1 : (x == 0) = false := by simpa using hne
            have d2 : decide (x = 0) = false := decide_eq_false hne
            have hw : IntKind.i64.wrap (x + 1) = x + 1 := IntWalk.i64_in _ (by omega)
            go_wp2_with (first
              | (refine wpList_run rfl (exec_indexAddr_sl rfl HE.out rfl rfl rfl hlt) ?_)
              | (refine wpList_run rfl (exec_loadaddr rfl rfl one3 hB) ?_)
              | (refine wpList_build1_o (v := .int .i64 (x + 1)) hmq rfl rfl HE.out rfl rfl ?_; intro w3 g3 hm3; clear hmq)
              | (refine wpList_append_o 0 hm3 rfl rfl HE.out rfl rfl rfl (Src.one (hm3.row 0 rfl)) (one_list _ rfl) (by simp only [List.length_cons, List.length_nil]; omega) (by simp only [List.length_cons, List.length_nil]; omega) ?_; intro ad4 c4 w4 hm4; simp only [List.set] at hm4; clear hm3))
            go_roundw
            case rel =>
              have e : vs .i64 out ++ [Value.int .i64 (x + 1)] = vs .i64 (out ++ [x + 1]) := by simp [vs]
              have e2 : (vs .i64 out).length + 1 = (out ++ [x + 1]).length := by simp [length_vs]
              have e3 : (vs .i64 out).length + [Value.int .i64 (x + 1)].length = (out ++ [x + 1]).length := by simp [length_vs]
              rw [e] at hm4
              refine ⟨k + 1, out ++ [x + 1], ad4, c4, by omega, by rw [← e2], by go_num, by simp only [List.length_append, List.length_cons, List.length_nil]; omega, HX.out, by rw [← e3]; exact hm4.dropRow⟩
            case measure => simp [intOf]; omega
          · have hlt2 : i < k := by omega
            have HX : Hid (foldO l = fgo (l.drop k) 0 (out ++ dg (k - i))) := by
              show _ = _
              rw [HX0.out, fgo_run hik hkl HZ.out HS.out]
            have hd := len_dg 31 (k - i) (by omega)
            have CD : Hid (∀ w, Calls Try.prog 35 #[.int .i64 ((k : Int) - i)] w (ListPost w (dg (k - i)) 0)) := Lib.hid (fun w => by
              have h := rdigits_in (k - i) (by omega) w
              rw [show ((k - i : Nat) : Int) = (k : Int) - i by omega] at h
              exact h)
            have n1 : ((k : Int) == (i : Int)) = false := by simp; omega
            have n2 : ¬ (k : Int) = (i : Int) := by omega
            clear HX0 HZ
            generalize hdd : dg (k - i) = dd at *
            clear hdd
            by_cases hkl2 : k < l.length
            · obtain ⟨A', hA', hB0⟩ := HC.out k hkl2
              obtain rfl : A = A' := by injection hA'
              have hB : wr.cell? (A.add k) = some (.int .i64 (gi l k)) := (hmq.below.cell (block_lt_of_cell hB0)).trans hB0
              have hne := HS.out hkl2
              clear hA' hB0 HS
              generalize gi l k = y at *
              have d1 : (y == 0) = false := by simpa using hne
              have d2 : decide (y = 0) = false := decide_eq_false hne
              go_wp2_with (first
                | (refine wpList_run rfl (exec_indexAddr_sl rfl HE.out rfl rfl rfl hkl2) ?_)
                | (refine wpList_run rfl (exec_loadaddr rfl rfl one3 hB) ?_)
                | (go_at_call 35; have _t := hmq; refine (CD.out _).mono ?_; rintro e w1 ⟨⟨r1, rfl, ho1⟩, hb1⟩; obtain ⟨a1, c1, rfl⟩ := owns_shape0 ho1; have hm1 := hmq.callSl hb1 (by rw [length_vs]; exact ho1); clear hmq ho1)
                | (refine wpList_append_o 1 hm1 rfl rfl HE.out rfl rfl rfl (Src.of_owned (hm1.get 0 rfl)) (vs_one _ _) (by simp only [length_vs]; omega) (by simp only [length_vs]; omega) ?_; intro ad4 c4 w4 hm4; simp only [List.set] at hm4; clear hm1))
              go_roundw
              case rel =>
                have e2 : (vs .i64 out).length + (vs .i64 dd).length = (out ++ dd).length := by simp [length_vs]
                rw [e2, ← vs_append] at hm4
                refine ⟨k, out ++ dd, ad4, c4, by omega, by rw [← e2], rfl, by rw [List.length_append]; omega, HX.out, hm4.dropSl⟩
              case measure => simp [intOf]; omega
            · obtain rfl : k = l.length := by omega
              clear HS
              go_wp2_with (first
                | (go_at_call 35; have _t := hmq; refine (CD.out _).mono ?_; rintro e w1 ⟨⟨r1, rfl, ho1⟩, hb1⟩; obtain ⟨a1, c1, rfl⟩ := owns_shape0 ho1; have hm1 := hmq.callSl hb1 (by rw [length_vs]; exact ho1); clear hmq ho1)
                | (refine wpList_append_o 1 hm1 rfl rfl HE.out rfl rfl rfl (Src.of_owned (hm1.get 0 rfl)) (vs_one _ _) (by simp only [length_vs]; omega) (by simp only [length_vs]; omega) ?_; intro ad4 c4 w4 hm4; simp only [List.set] at hm4; clear hm1))
              go_roundw
              case rel =>
                have e2 : (vs .i64 out).length + (vs .i64 dd).length = (out ++ dd).length := by simp [length_vs]
                rw [e2, ← vs_append] at hm4
                refine ⟨l.length, out ++ dd, ad4, c4, by omega, by rw [← e2], rfl, by rw [List.length_append]; omega, HX.out, hm4.dropSl⟩
              case measure => simp [intOf]; omega
    · obtain rfl : i = l.length := by omega
      have HX : Hid (foldO l = (out, 0)) := by show foldO l = _; rw [hx, List.drop_length, fgo, dg_zero, List.append_nil]
      clear hx
      go_wp2_with fail
      go_ret2
      have hg := hmr.get 0 rfl
      dsimp only at hg
      exact ⟨⟨_, by rw [HX.out]; rfl, by rw [HX.out]; exact own_len0 hg⟩, hmr.below⟩
end Go.Proofs.Ytaccjnekonmkoaa
