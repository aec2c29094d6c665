/-
  The walk of winepresslaw14.ZeroRunBack: where it rests on the examples, and where a position is none.
-/
import Derived.Test.YtaccjnekonmkoaaZrOn
namespace Go.Proofs.Ytaccjnekonmkoaa
open Go Go.RowKit

/-- Are the first i positions positions? And how many of them are zero? -/
def mayUp (l : List Int) (i : Nat) : Bool := (l.take i).all fun p => decide (0 ≤ p ∧ p ≤ 255)
def nulls (l : List Int) (i : Nat) : Nat := (l.take i).countP fun p => p == 0
theorem mayUp_step (l : List Int) (i : Nat) (h : i < l.length) : mayUp l (i + 1) = (mayUp l i && decide (0 ≤ gi l i ∧ gi l i ≤ 255)) := by
  have e : gi l i = l[i] := by simp [gi, List.getD_eq_getElem?_getD, List.getElem?_eq_getElem h]
  rw [mayUp, List.take_succ_eq_append_getElem h, List.all_append, e]
  simp [mayUp]
theorem nulls_step (l : List Int) (i : Nat) (h : i < l.length) : nulls l (i + 1) = nulls l i + if gi l i = 0 then 1 else 0 := by
  have e : gi l i = l[i] := by simp [gi, List.getD_eq_getElem?_getD, List.getElem?_eq_getElem h]
  rw [nulls, List.take_succ_eq_append_getElem h, List.countP_append, e]
  simp [nulls, List.countP_cons]
theorem nulls_le (l : List Int) (i : Nat) : nulls l i ≤ l.length := Nat.le_trans List.countP_le_length (by rw [List.length_take]; omega)
theorem mayUp_all (l : List Int) : mayUp l l.length = true ↔ Pl l := by
  rw [mayUp, List.take_length, List.all_eq_true]
  simp [Pl]
theorem nulls_none {l : List Int} (h : nulls l l.length = 0) : ∀ p ∈ l, p ≠ 0 := by
  rw [nulls, List.take_length, List.countP_eq_zero] at h
  intro p hp h0
  have := h p hp
  simp [h0] at this

set_option maxRecDepth 100000 in
theorem back_w1 (v : Value) (l : List Int) (w : World) (hv : In .i64 w v l) (h : (600 : Int) < l.length) : Calls Try.prog 9 #[v] w fun e w' => e = .returned (.bool true) ∧ Below w.heap.size w w' := by
  obtain ⟨ad, cp, rfl, _⟩ := hv
  go_enter Try.func9, Try.ntmps9
  have hm := Own.nil w
  go_wp2_with (first
    | (go_at_call 33; have _t := hm; refine (wakes14 _).mono ?_; rintro e w1 ⟨rfl, hb1⟩; have hm1 := hm.call hb1; clear hm))
  go_ret
  exact ⟨rfl, hm1.below⟩
set_option maxRecDepth 100000 in
set_option maxHeartbeats 4000000 in
theorem back_bad (v : Value) (l : List Int) (w : World) (sv : Src w v (vs .i64 l)) (h : ¬ (600 : Int) < l.length) (CF : Hid (foldO l = ([], 2))) (CM : Hid (mayUp l l.length = false)) : Calls Try.prog 9 #[v] w fun e w' => e = .returned (.bool true) ∧ Below w.heap.size w w' := by
  have HV := Lib.hid (srcIn sv)
  have SV := Lib.hid sv
  obtain ⟨ad, cp, rfl, hc⟩ := srcIn sv
  have HC := Lib.hid hc
  obtain ⟨i3, hE⟩ := el39
  have HE := Lib.hid hE
  clear sv hE hc
  go_enter Try.func9, Try.ntmps9
  have hm := Own.nil w
  go_wp2_with (first
    | (go_at_call 41; have _t := hm; refine (fold_any _ l _ HV.out (by omega)).mono ?_; rintro e w1 ⟨⟨r1, rfl, ho1⟩, hb1⟩; rw [CF.out] at ho1; rw [CF.out]; obtain ⟨a1, c1, rfl⟩ := owns_shape0 ho1; have hm1 := hm.call hb1; clear hm))
  go_loopw [5, 6, 7] (fun a b u wr => ∃ i : Nat, i ≤ l.length ∧ a = .bool (mayUp l i) ∧ b = .int .i64 (nulls l i) ∧ u = .int .i64 i ∧ Own w wr [] []) (fun _ _ u _ => l.length - (intOf u).toNat)
  case atStart => exact ⟨0, by omega, rfl, rfl, rfl, hm1⟩
  case round =>
    obtain ⟨i, hi, rfl, rfl, rfl, hmr⟩ := hrel
    clear hm1
    by_cases hlt : i < l.length
    · obtain ⟨A, rfl, hA0⟩ := HC.out i hlt
      have hA : wr.cell? (A.add i) = some (.int .i64 (gi l i)) := (hmr.below.cell (block_lt_of_cell hA0)).trans hA0
      have hs1 := mayUp_step l i hlt
      have hs2 := nulls_step l i hlt
      have hs3 := nulls_le l i
      have hq : IntKind.i64.wrap ((nulls l i : Int) + 1) = ((nulls l i + 1 : Nat) : Int) := by rw [IntWalk.i64_in _ (by omega)]; omega
      clear hA0 hs3
      generalize gi l i = p at *
      generalize nulls l i = c at *
      generalize mayUp l i = m at *
      cases m
      · by_cases hp0 : p = 0
        · subst hp0
          have e1 : Hid (mayUp l (i + 1) = false) := by show mayUp l (i + 1) = false; rw [hs1]; simp; try omega
          have e2 : Hid (nulls l (i + 1) = c + 1) := by show nulls l (i + 1) = _; rw [hs2]; simp; try omega
          clear hs1 hs2
          go_wp2_with (first
            | (refine wpList_run rfl (exec_indexAddr_sl rfl HE.out rfl rfl rfl hlt) ?_)
            | (refine wpList_run rfl (exec_loadaddr rfl rfl one3 hA) ?_))
          go_roundw
          case rel => exact ⟨i + 1, by omega, by rw [e1.out], by first | (rw [e2.out]; done) | (rw [e2.out]; go_num) | go_num, by go_num, hmr⟩
          case measure => simp [intOf]; omega
        · have p1 : (p == 0) = false := by simpa using hp0
          have p2 : decide (p = 0) = false := decide_eq_false hp0
          have e1 : Hid (mayUp l (i + 1) = false) := by show mayUp l (i + 1) = false; rw [hs1]; simp; try omega
          have e2 : Hid (nulls l (i + 1) = c) := by show nulls l (i + 1) = _; rw [hs2]; simp; try omega
          clear hs1 hs2
          go_wp2_with (first
            | (refine wpList_run rfl (exec_indexAddr_sl rfl HE.out rfl rfl rfl hlt) ?_)
            | (refine wpList_run rfl (exec_loadaddr rfl rfl one3 hA) ?_))
          go_roundw
          case rel => exact ⟨i + 1, by omega, by rw [e1.out], by first | (rw [e2.out]; done) | (rw [e2.out]; go_num) | go_num, by go_num, hmr⟩
          case measure => simp [intOf]; omega
      · by_cases hlo : p < 0
        · have p0 : ¬ 0 ≤ p := by omega
          have hp0 : ¬ p = 0 := by omega
          have p1 : (p == 0) = false := by simpa using hp0
          have p2 : decide (p = 0) = false := decide_eq_false hp0
          have p3 : decide (0 ≤ p) = false := decide_eq_false p0
          have e1 : Hid (mayUp l (i + 1) = false) := by show mayUp l (i + 1) = false; rw [hs1]; simp; try omega
          have e2 : Hid (nulls l (i + 1) = c) := by show nulls l (i + 1) = _; rw [hs2]; simp; try omega
          clear hs1 hs2
          go_wp2_with (first
            | (refine wpList_run rfl (exec_indexAddr_sl rfl HE.out rfl rfl rfl hlt) ?_)
            | (refine wpList_run rfl (exec_loadaddr rfl rfl one3 hA) ?_))
          go_roundw
          case rel => exact ⟨i + 1, by omega, by rw [e1.out], by first | (rw [e2.out]; done) | (rw [e2.out]; go_num) | go_num, by go_num, hmr⟩
          case measure => simp [intOf]; omega
        have q0 : 0 ≤ p := by omega
        have q1 : decide (0 ≤ p) = true := decide_eq_true q0
        by_cases hhi : 255 < p
        · have p0 : ¬ p ≤ 255 := by omega
          have hp0 : ¬ p = 0 := by omega
          have p1 : (p == 0) = false := by simpa using hp0
          have p2 : decide (p = 0) = false := decide_eq_false hp0
          have p3 : decide (p ≤ 255) = false := decide_eq_false p0
          have e1 : Hid (mayUp l (i + 1) = false) := by show mayUp l (i + 1) = false; rw [hs1]; simp; try omega
          have e2 : Hid (nulls l (i + 1) = c) := by show nulls l (i + 1) = _; rw [hs2]; simp; try omega
          clear hs1 hs2
          go_wp2_with (first
            | (refine wpList_run rfl (exec_indexAddr_sl rfl HE.out rfl rfl rfl hlt) ?_)
            | (refine wpList_run rfl (exec_loadaddr rfl rfl one3 hA) ?_))
          go_roundw
          case rel => exact ⟨i + 1, by omega, by rw [e1.out], by first | (rw [e2.out]; done) | (rw [e2.out]; go_num) | go_num, by go_num, hmr⟩
          case measure => simp [intOf]; omega
        have q2 : p ≤ 255 := by omega
        have q3 : decide (p ≤ 255) = true := decide_eq_true q2
        by_cases hp0 : p = 0
        · subst hp0
          have e1 : Hid (mayUp l (i + 1) = true) := by show mayUp l (i + 1) = true; rw [hs1]; simp; try omega
          have e2 : Hid (nulls l (i + 1) = c + 1) := by show nulls l (i + 1) = _; rw [hs2]; simp; try omega
          clear hs1 hs2
          go_wp2_with (first
            | (refine wpList_run rfl (exec_indexAddr_sl rfl HE.out rfl rfl rfl hlt) ?_)
            | (refine wpList_run rfl (exec_loadaddr rfl rfl one3 hA) ?_))
          go_roundw
          case rel => exact ⟨i + 1, by omega, by rw [e1.out], by first | (rw [e2.out]; done) | (rw [e2.out]; go_num) | go_num, by go_num, hmr⟩
          case measure => simp [intOf]; omega
        · have p1 : (p == 0) = false := by simpa using hp0
          have p2 : decide (p = 0) = false := decide_eq_false hp0
          have e1 : Hid (mayUp l (i + 1) = true) := by show mayUp l (i + 1) = true; rw [hs1]; simp; try omega
          have e2 : Hid (nulls l (i + 1) = c) := by show nulls l (i + 1) = _; rw [hs2]; simp; try omega
          clear hs1 hs2
          go_wp2_with (first
            | (refine wpList_run rfl (exec_indexAddr_sl rfl HE.out rfl rfl rfl hlt) ?_)
            | (refine wpList_run rfl (exec_loadaddr rfl rfl one3 hA) ?_))
          go_roundw
          case rel => exact ⟨i + 1, by omega, by rw [e1.out], by first | (rw [e2.out]; done) | (rw [e2.out]; go_num) | go_num, by go_num, hmr⟩
          case measure => simp [intOf]; omega
    · obtain rfl : i = l.length := by omega
      rw [CM.out]
      go_wp2_with (first
        | (go_at_call 33; have _t := hmr; refine (wakes14 _).mono ?_; rintro e w2 ⟨rfl, hb2⟩; have hm2 := hmr.call hb2; clear hmr))
      go_ret
      exact ⟨rfl, hm2.below⟩
end Go.Proofs.Ytaccjnekonmkoaa
