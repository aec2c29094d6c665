/-
  Part 52 of the proof.
-/
import Derived.Test.YtkpbhdhkdonghaaGreatV19
import Derived.Test.YtkpbhdhkdonghaaGreatV51
set_option linter.all false
namespace Go.Proofs.YtkpbhdhkdonghaaGreat
open Go Go.RowKit
set_option maxRecDepth 100000 in
set_option maxHeartbeats 1000000 in
theorem tib_1 (v : Value) (l : List Int) (index dist : Int) (w : World) (hv : In .u8 w v l) (p1 : l.length = 0) : Calls Tryz.prog 6 #[v, .int .i64 index, .int .i64 dist] w fun e w' => e = .returned (.bool true) ∧ Below w.heap.size w w' := by
  obtain ⟨ad, cp, rfl, _⟩ := hv
  generalize l.length = n at *
  subst p1
  go_enter Tryz.func6, Tryz.ntmps6
  have hm := Own.nil w
  go_wp2_with (first
    | (go_at_call 9; refine (lives_ok _).mono ?_; rintro e w1 ⟨rfl, hb9⟩; replace hm := hm.call hb9; clear hb9))
  go_ret
  exact ⟨rfl, hm.below⟩
set_option maxRecDepth 100000 in
set_option maxHeartbeats 1000000 in
theorem tib_2 (v : Value) (l : List Int) (index dist : Int) (w : World) (hv : In .u8 w v l) (p1 : ¬ l.length = 0) (p2 : 60 < l.length) : Calls Tryz.prog 6 #[v, .int .i64 index, .int .i64 dist] w fun e w' => e = .returned (.bool true) ∧ Below w.heap.size w w' := by
  obtain ⟨ad, cp, rfl, _⟩ := hv
  generalize l.length = n at *
  have q1 : ((n : Int) == 0) = false := by simpa using p1
  have q1' : (n == 0) = false := by simpa using p1
  have q2 : decide ((60 : Int) < n) = true := decide_eq_true (by omega)
  have q2' : decide (60 < n) = true := decide_eq_true (by omega)
  go_enter Tryz.func6, Tryz.ntmps6
  have hm := Own.nil w
  go_wp2_with (first
    | (go_at_call 9; refine (lives_ok _).mono ?_; rintro e w1 ⟨rfl, hb9⟩; replace hm := hm.call hb9; clear hb9))
  go_ret
  exact ⟨rfl, hm.below⟩
set_option maxRecDepth 100000 in
set_option maxHeartbeats 1000000 in
theorem tib_3 (v : Value) (l : List Int) (index dist : Int) (w : World) (hv : In .u8 w v l) (p1 : ¬ l.length = 0) (p2 : ¬ 60 < l.length) (p3 : index < 1) : Calls Tryz.prog 6 #[v, .int .i64 index, .int .i64 dist] w fun e w' => e = .returned (.bool true) ∧ Below w.heap.size w w' := by
  obtain ⟨ad, cp, rfl, _⟩ := hv
  generalize l.length = n at *
  have q1 : ((n : Int) == 0) = false := by simpa using p1
  have q1' : (n == 0) = false := by simpa using p1
  have q2 : decide ((60 : Int) < n) = false := decide_eq_false (by omega)
  have q2' : decide (60 < n) = false := decide_eq_false (by omega)
  have q3 : decide (index < 1) = true := decide_eq_true p3
  go_enter Tryz.func6, Tryz.ntmps6
  have hm := Own.nil w
  go_wp2_with (first
    | (go_at_call 9; refine (lives_ok _).mono ?_; rintro e w1 ⟨rfl, hb9⟩; replace hm := hm.call hb9; clear hb9))
  go_ret
  exact ⟨rfl, hm.below⟩
set_option maxRecDepth 100000 in
set_option maxHeartbeats 1000000 in
theorem tib_4 (v : Value) (l : List Int) (index dist : Int) (w : World) (hv : In .u8 w v l) (p1 : ¬ l.length = 0) (p2 : ¬ 60 < l.length) (p3 : ¬ index < 1) (p4 : (l.length : Int) < index) : Calls Tryz.prog 6 #[v, .int .i64 index, .int .i64 dist] w fun e w' => e = .returned (.bool true) ∧ Below w.heap.size w w' := by
  obtain ⟨ad, cp, rfl, _⟩ := hv
  generalize l.length = n at *
  have q1 : ((n : Int) == 0) = false := by simpa using p1
  have q1' : (n == 0) = false := by simpa using p1
  have q2 : decide ((60 : Int) < n) = false := decide_eq_false (by omega)
  have q2' : decide (60 < n) = false := decide_eq_false (by omega)
  have q3 : decide (index < 1) = false := decide_eq_false p3
  have q4 : decide ((n : Int) < index) = true := decide_eq_true p4
  go_enter Tryz.func6, Tryz.ntmps6
  have hm := Own.nil w
  go_wp2_with (first
    | (go_at_call 9; refine (lives_ok _).mono ?_; rintro e w1 ⟨rfl, hb9⟩; replace hm := hm.call hb9; clear hb9))
  go_ret
  exact ⟨rfl, hm.below⟩
set_option maxRecDepth 100000 in
set_option maxHeartbeats 1000000 in
theorem tib_5 (v : Value) (l : List Int) (index dist : Int) (w : World) (hv : In .u8 w v l) (p1 : ¬ l.length = 0) (p2 : ¬ 60 < l.length) (p3 : ¬ index < 1) (p4 : ¬ (l.length : Int) < index) (p5 : dist < 1) : Calls Tryz.prog 6 #[v, .int .i64 index, .int .i64 dist] w fun e w' => e = .returned (.bool true) ∧ Below w.heap.size w w' := by
  obtain ⟨ad, cp, rfl, _⟩ := hv
  generalize l.length = n at *
  have q1 : ((n : Int) == 0) = false := by simpa using p1
  have q1' : (n == 0) = false := by simpa using p1
  have q2 : decide ((60 : Int) < n) = false := decide_eq_false (by omega)
  have q2' : decide (60 < n) = false := decide_eq_false (by omega)
  have q3 : decide (index < 1) = false := decide_eq_false p3
  have q4 : decide ((n : Int) < index) = false := decide_eq_false p4
  have q5 : decide (dist < 1) = true := decide_eq_true p5
  go_enter Tryz.func6, Tryz.ntmps6
  have hm := Own.nil w
  go_wp2_with (first
    | (go_at_call 9; refine (lives_ok _).mono ?_; rintro e w1 ⟨rfl, hb9⟩; replace hm := hm.call hb9; clear hb9))
  go_ret
  exact ⟨rfl, hm.below⟩
set_option maxRecDepth 100000 in
set_option maxHeartbeats 1000000 in
theorem tib_6 (v : Value) (l : List Int) (index dist : Int) (w : World) (hv : In .u8 w v l) (p1 : ¬ l.length = 0) (p2 : ¬ 60 < l.length) (p3 : ¬ index < 1) (p4 : ¬ (l.length : Int) < index) (p5 : ¬ dist < 1) (p6 : 100 < dist) : Calls Tryz.prog 6 #[v, .int .i64 index, .int .i64 dist] w fun e w' => e = .returned (.bool true) ∧ Below w.heap.size w w' := by
  obtain ⟨ad, cp, rfl, _⟩ := hv
  generalize l.length = n at *
  have q1 : ((n : Int) == 0) = false := by simpa using p1
  have q1' : (n == 0) = false := by simpa using p1
  have q2 : decide ((60 : Int) < n) = false := decide_eq_false (by omega)
  have q2' : decide (60 < n) = false := decide_eq_false (by omega)
  have q3 : decide (index < 1) = false := decide_eq_false p3
  have q4 : decide ((n : Int) < index) = false := decide_eq_false p4
  have q5 : decide (dist < 1) = false := decide_eq_false p5
  have q6 : decide (100 < dist) = true := decide_eq_true p6
  go_enter Tryz.func6, Tryz.ntmps6
  have hm := Own.nil w
  go_wp2_with (first
    | (go_at_call 9; refine (lives_ok _).mono ?_; rintro e w1 ⟨rfl, hb9⟩; replace hm := hm.call hb9; clear hb9))
  go_ret
  exact ⟨rfl, hm.below⟩
end Go.Proofs.YtkpbhdhkdonghaaGreat
