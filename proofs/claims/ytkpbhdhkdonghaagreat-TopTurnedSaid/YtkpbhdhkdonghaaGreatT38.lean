/-
  Part 38 of the proof.
-/
import Derived.Test.YtkpbhdhkdonghaaGreatT21
import Derived.Test.YtkpbhdhkdonghaaGreatT22
import Derived.Test.YtkpbhdhkdonghaaGreatT32
import Derived.Test.YtkpbhdhkdonghaaGreatT37
set_option linter.all false
namespace Go.Proofs.YtkpbhdhkdonghaaGreat
open Go Go.RowKit
theorem isI_some {k : IntKind} {v : Value} (h : isI k v = true) : ∃ z, v = .int k z ∧ (Lit.int k z).wf = true := by
  unfold isI at h
  split at h
  · rename_i j m
    cases hb : Nat.beq (kIdx j) (kIdx k) with
    | false => rw [hb] at h; cases h
    | true =>
      rw [hb] at h
      obtain rfl := kIdx_inj hb
      have hm := Nat.le_of_ble_eq_true h
      refine ⟨.ofNat m, rfl, ?_⟩
      have h1 : j.min ≤ 0 := by cases j <;> decide
      have h2 : (limK j : Int) ≤ j.max := by cases j <;> decide
      show (decide (j.min ≤ (m : Int)) && decide ((m : Int) ≤ j.max)) = true
      rw [Bool.and_eq_true]
      exact ⟨decide_eq_true (by omega), decide_eq_true (by omega)⟩
  · rename_i j m
    cases hb : Nat.beq (kIdx j) (kIdx k) with
    | false => rw [hb] at h; cases h
    | true =>
      rw [hb] at h
      obtain rfl := kIdx_inj hb
      cases hs : Nat.ble (kIdx j) 3 with
      | false => rw [hs] at h; cases h
      | true =>
        rw [hs] at h
        have hm := Nat.le_of_ble_eq_true h
        refine ⟨.negSucc m, rfl, ?_⟩
        have h1 : j.min ≤ -(limK j : Int) - 1 := by cases j <;> first | decide | cases hs
        have h2 : 0 ≤ j.max := by cases j <;> decide
        have h3 : Int.negSucc m = -(m : Int) - 1 := by rw [Int.negSucc_eq]; omega
        show (decide (j.min ≤ Int.negSucc m) && decide (Int.negSucc m ≤ j.max)) = true
        rw [Bool.and_eq_true, h3]
        exact ⟨decide_eq_true (by omega), decide_eq_true (by omega)⟩
  · cases h
theorem isIs1 {k : IntKind} {v : Value} (h : isIs k 1 v = true) : ∃ z, v = .agg #[.int k z] ∧ (Lit.int k z).wf = true := by
  cases v with
  | agg cs =>
    obtain ⟨l⟩ := cs
    rcases l with _ | ⟨x, _ | ⟨y, _ | ⟨z, t⟩⟩⟩
    · cases h
    · obtain ⟨z, rfl, hz⟩ := isI_some (show isI k x = true from h)
      exact ⟨z, rfl, hz⟩
    · cases h
    · cases h
  | _ => cases h
theorem isIs2 {k : IntKind} {v : Value} (h : isIs k 2 v = true) : ∃ y z, v = .agg #[.int k y, .int k z] ∧ (Lit.int k y).wf = true ∧ (Lit.int k z).wf = true := by
  cases v with
  | agg cs =>
    obtain ⟨l⟩ := cs
    rcases l with _ | ⟨x, _ | ⟨y, _ | ⟨z, t⟩⟩⟩
    · cases h
    · cases h
    · have h2 : cond (isI k x) (isI k y) false = true := h
      clear h
      cases hx : isI k x with
      | false => rw [hx] at h2; cases h2
      | true =>
        rw [hx] at h2
        obtain ⟨a, rfl, ha⟩ := isI_some hx
        obtain ⟨b, rfl, hb⟩ := isI_some (show isI k y = true from h2)
        exact ⟨a, b, rfl, ha, hb⟩
    · cases h
  | _ => cases h
theorem keyed_all : KeyedAll Tryz.prog := by
  refine ⟨fun kt h => ?_, fun kt v _ h => ?_⟩
  · simp only [keyTs, List.mem_cons, List.not_mem_nil, or_false] at h
    rcases h with rfl | rfl | rfl | rfl | rfl
    · exact kd3
    · exact kd5
    · exact kd134
    · exact Maps.Keyed.of_law Pol.keyLaw
    · exact kd241
  · unfold keyQ at h
    cases h1 : Nat.beq kt 134 with
    | true =>
      rw [h1] at h
      obtain rfl := Nat.eq_of_beq_eq_true h1
      obtain ⟨z, rfl, hz⟩ := isIs1 (show isIs .i64 1 v = true from h)
      exact Option.isSome_iff_exists.2 (key134 hz)
    | false =>
      rw [h1] at h
      cases h2 : Nat.beq kt 207 with
      | true =>
        rw [h2] at h
        obtain rfl := Nat.eq_of_beq_eq_true h2
        obtain ⟨y, z, rfl, hy, hz⟩ := isIs2 (show isIs .u8 2 v = true from h)
        exact Option.isSome_iff_exists.2 (Pol.key_of hy hz)
      | false =>
        rw [h2] at h
        cases h3 : Nat.beq kt 5 with
        | true =>
          rw [h3] at h
          obtain rfl := Nat.eq_of_beq_eq_true h3
          obtain ⟨z, rfl, hz⟩ := isI_some (show isI .u8 v = true from h)
          exact Option.isSome_iff_exists.2 (key5 hz)
        | false =>
          rw [h3] at h
          cases h4 : Nat.beq kt 3 with
          | true =>
            rw [h4] at h
            obtain rfl := Nat.eq_of_beq_eq_true h4
            obtain ⟨z, rfl, hz⟩ := isI_some (show isI .i64 v = true from h)
            exact Option.isSome_iff_exists.2 (key3 hz)
          | false =>
            rw [h4] at h
            cases h5 : Nat.beq kt 241 with
            | true =>
              rw [h5] at h
              obtain rfl := Nat.eq_of_beq_eq_true h5
              obtain ⟨y, z, rfl, hy, hz⟩ := isIs2 (show isIs .i64 2 v = true from h)
              exact Option.isSome_iff_exists.2 (key241 hy hz)
            | false => rw [h5] at h; cases h
theorem ai_ok {S : ASum} (hS : SumOk Tryz.prog S) (n : Nat) (w0 : Base) : AIOk Tryz.prog (ai Tryz.prog S n) w0 := ai_sound keyed_all it_ok (by kernel_rfl) hS n w0
theorem ai_call {S : ASum} (hS : SumOk Tryz.prog S) {n : Nat} {f : FuncId} {b : Bool} {h1 : AH} (hx : (ai Tryz.prog S n).call f [] ⟨.nil, 0⟩ = some (.bool b, h1)) (w : World) : Calls Tryz.prog f #[] w fun x w' => x = .returned (.bool b) ∧ Below w.heap.size w w' := by
  refine ((ai_ok hS n (Base.all w)).call.ok f [] ⟨.nil, 0⟩ (.bool b) h1 hx (fun _ => none) w [] .nil (HX.nil (Base.all w))).mono ?_
  rintro x w' ⟨u, e1, rfl, _, h3, h4⟩
  cases h3
  exact ⟨rfl, h4.below.toBelow⟩
end Go.Proofs.YtkpbhdhkdonghaaGreat

namespace Go.Proofs.YtkpbhdhkdonghaaGreat
open Go Go.RowKit
def bitsL : List Int := [0, 0, 1, 1, 0, 0, 1, 1, 1, 1, 1, 1, 0, 0, 0, 0, 0, 0, 0, 0, 0, 0, 0, 0, 0, 0, 0, 0, 0, 0, 0, 0, 0, 0, 0, 0, 0, 0, 0, 0, 0, 0, 0, 0, 0, 0, 0, 0, 0, 0, 0, 0, 0, 0, 0, 0, 0, 0, 0, 0, 0, 0, 0, 0, 0, 0, 0, 0, 0, 0, 0, 0, 0, 0, 0, 0, 0, 0, 0, 0, 0, 0, 0, 0, 0, 0, 0, 0, 0, 0, 0, 0, 0, 0, 0, 0, 0, 0, 0, 0, 0, 0, 0, 0, 0, 0, 0, 0, 0, 1, 0, 1, 0, 1, 0, 0, 0, 1, 1, 1, 1, 1, 1, 0, 0, 0, 0, 0, 0, 0, 0, 0, 0, 1, 0, 1, 0, 0, 1, 1, 1, 1, 0, 0, 0, 0, 0, 0, 0, 0, 0, 0, 0, 0, 0, 0, 0, 0, 0, 0, 0, 0, 0, 0, 0, 0, 0, 0, 0, 0, 0, 0, 0, 0, 0, 0, 0, 0, 0, 0, 0, 0, 0, 0, 0, 0, 0, 0, 0, 0, 0, 0, 0, 0, 0, 0, 0, 0, 0, 0, 0, 0, 0, 0, 0, 0, 0, 0, 0, 0, 0, 0, 0, 0, 0, 0, 0, 0, 0, 0, 0, 0, 0, 0, 0, 0, 0, 0, 0, 0, 0, 0, 0, 0, 0, 0, 0, 0, 0, 0, 0, 0, 0, 0, 0, 0, 0, 0, 0, 0, 0, 0, 0, 0, 0, 0, 0, 0, 0, 0, 0, 0, 0, 0, 0, 0, 0, 0, 0, 0, 0, 0, 0, 0, 0, 0, 0, 0, 0, 0, 0, 0, 0, 0, 0, 0, 0, 1, 0, 1, 0, 0, 1, 1, 0, 0, 0, 1, 0, 0, 1, 1, 1, 1, 0, 1, 0, 1, 0, 0, 0, 0, 0, 0, 0, 0, 0, 0, 0, 0, 0, 0, 0, 0, 0, 0, 1, 1, 1, 0, 0, 0, 1, 0, 1, 1, 0, 1, 1, 0, 0, 1, 1, 1, 1, 1, 0, 0, 1, 1, 1, 1]
def bitsW : List Value := [.int .i64 (.ofNat 0), .int .i64 (.ofNat 0), .int .i64 (.ofNat 1), .int .i64 (.ofNat 1), .int .i64 (.ofNat 0), .int .i64 (.ofNat 0), .int .i64 (.ofNat 1), .int .i64 (.ofNat 1), .int .i64 (.ofNat 1), .int .i64 (.ofNat 1), .int .i64 (.ofNat 1), .int .i64 (.ofNat 1), .int .i64 (.ofNat 0), .int .i64 (.ofNat 0), .int .i64 (.ofNat 0), .int .i64 (.ofNat 0), .int .i64 (.ofNat 0), .int .i64 (.ofNat 0), .int .i64 (.ofNat 0), .int .i64 (.ofNat 0), .int .i64 (.ofNat 0), .int .i64 (.ofNat 0), .int .i64 (.ofNat 0), .int .i64 (.ofNat 0), .int .i64 (.ofNat 0), .int .i64 (.ofNat 0), .int .i64 (.ofNat 0), .int .i64 (.ofNat 0), .int .i64 (.ofNat 0), .int .i64 (.ofNat 0), .int .i64 (.ofNat 0), .int .i64 (.ofNat 0), .int .i64 (.ofNat 0), .int .i64 (.ofNat 0), .int .i64 (.ofNat 0), .int .i64 (.ofNat 0), .int .i64 (.ofNat 0), .int .i64 (.ofNat 0), .int .i64 (.ofNat 0), .int .i64 (.ofNat 0), .int .i64 (.ofNat 0), .int .i64 (.ofNat 0), .int .i64 (.ofNat 0), .int .i64 (.ofNat 0), .int .i64 (.ofNat 0), .int .i64 (.ofNat 0), .int .i64 (.ofNat 0), .int .i64 (.ofNat 0), .int .i64 (.ofNat 0), .int .i64 (.ofNat 0), .int .i64 (.ofNat 0), .int .i64 (.ofNat 0), .int .i64 (.ofNat 0), .int .i64 (.ofNat 0), .int .i64 (.ofNat 0), .int .i64 (.ofNat 0), .int .i64 (.ofNat 0), .int .i64 (.ofNat 0), .int .i64 (.ofNat 0), .int .i64 (.ofNat 0), .int .i64 (.ofNat 0), .int .i64 (.ofNat 0), .int .i64 (.ofNat 0), .int .i64 (.ofNat 0), .int .i64 (.ofNat 0), .int .i64 (.ofNat 0), .int .i64 (.ofNat 0), .int .i64 (.ofNat 0), .int .i64 (.ofNat 0), .int .i64 (.ofNat 0), .int .i64 (.ofNat 0), .int .i64 (.ofNat 0), .int .i64 (.ofNat 0), .int .i64 (.ofNat 0), .int .i64 (.ofNat 0), .int .i64 (.ofNat 0), .int .i64 (.ofNat 0), .int .i64 (.ofNat 0), .int .i64 (.ofNat 0), .int .i64 (.ofNat 0), .int .i64 (.ofNat 0), .int .i64 (.ofNat 0), .int .i64 (.ofNat 0), .int .i64 (.ofNat 0), .int .i64 (.ofNat 0), .int .i64 (.ofNat 0), .int .i64 (.ofNat 0), .int .i64 (.ofNat 0), .int .i64 (.ofNat 0), .int .i64 (.ofNat 0), .int .i64 (.ofNat 0), .int .i64 (.ofNat 0), .int .i64 (.ofNat 0), .int .i64 (.ofNat 0), .int .i64 (.ofNat 0), .int .i64 (.ofNat 0), .int .i64 (.ofNat 0), .int .i64 (.ofNat 0), .int .i64 (.ofNat 0), .int .i64 (.ofNat 0), .int .i64 (.ofNat 0), .int .i64 (.ofNat 0), .int .i64 (.ofNat 0), .int .i64 (.ofNat 0), .int .i64 (.ofNat 0), .int .i64 (.ofNat 0), .int .i64 (.ofNat 0), .int .i64 (.ofNat 0), .int .i64 (.ofNat 0), .int .i64 (.ofNat 1), .int .i64 (.ofNat 0), .int .i64 (.ofNat 1), .int .i64 (.ofNat 0), .int .i64 (.ofNat 1), .int .i64 (.ofNat 0), .int .i64 (.ofNat 0), .int .i64 (.ofNat 0), .int .i64 (.ofNat 1), .int .i64 (.ofNat 1), .int .i64 (.ofNat 1), .int .i64 (.ofNat 1), .int .i64 (.ofNat 1), .int .i64 (.ofNat 1), .int .i64 (.ofNat 0), .int .i64 (.ofNat 0), .int .i64 (.ofNat 0), .int .i64 (.ofNat 0), .int .i64 (.ofNat 0), .int .i64 (.ofNat 0), .int .i64 (.ofNat 0), .int .i64 (.ofNat 0), .int .i64 (.ofNat 0), .int .i64 (.ofNat 0), .int .i64 (.ofNat 1), .int .i64 (.ofNat 0), .int .i64 (.ofNat 1), .int .i64 (.ofNat 0), .int .i64 (.ofNat 0), .int .i64 (.ofNat 1), .int .i64 (.ofNat 1), .int .i64 (.ofNat 1), .int .i64 (.ofNat 1), .int .i64 (.ofNat 0), .int .i64 (.ofNat 0), .int .i64 (.ofNat 0), .int .i64 (.ofNat 0), .int .i64 (.ofNat 0), .int .i64 (.ofNat 0), .int .i64 (.ofNat 0), .int .i64 (.ofNat 0), .int .i64 (.ofNat 0), .int .i64 (.ofNat 0), .int .i64 (.ofNat 0), .int .i64 (.ofNat 0), .int .i64 (.ofNat 0), .int .i64 (.ofNat 0), .int .i64 (.ofNat 0), .int .i64 (.ofNat 0), .int .i64 (.ofNat 0), .int .i64 (.ofNat 0), .int .i64 (.ofNat 0), .int .i64 (.ofNat 0), .int .i64 (.ofNat 0), .int .i64 (.ofNat 0), .int .i64 (.ofNat 0), .int .i64 (.ofNat 0), .int .i64 (.ofNat 0), .int .i64 (.ofNat 0), .int .i64 (.ofNat 0), .int .i64 (.ofNat 0), .int .i64 (.ofNat 0), .int .i64 (.ofNat 0), .int .i64 (.ofNat 0), .int .i64 (.ofNat 0), .int .i64 (.ofNat 0), .int .i64 (.ofNat 0), .int .i64 (.ofNat 0), .int .i64 (.ofNat 0), .int .i64 (.ofNat 0), .int .i64 (.ofNat 0), .int .i64 (.ofNat 0), .int .i64 (.ofNat 0), .int .i64 (.ofNat 0), .int .i64 (.ofNat 0), .int .i64 (.ofNat 0), .int .i64 (.ofNat 0), .int .i64 (.ofNat 0), .int .i64 (.ofNat 0), .int .i64 (.ofNat 0), .int .i64 (.ofNat 0), .int .i64 (.ofNat 0), .int .i64 (.ofNat 0), .int .i64 (.ofNat 0), .int .i64 (.ofNat 0), .int .i64 (.ofNat 0), .int .i64 (.ofNat 0), .int .i64 (.ofNat 0), .int .i64 (.ofNat 0), .int .i64 (.ofNat 0), .int .i64 (.ofNat 0), .int .i64 (.ofNat 0), .int .i64 (.ofNat 0), .int .i64 (.ofNat 0), .int .i64 (.ofNat 0), .int .i64 (.ofNat 0), .int .i64 (.ofNat 0), .int .i64 (.ofNat 0), .int .i64 (.ofNat 0), .int .i64 (.ofNat 0), .int .i64 (.ofNat 0), .int .i64 (.ofNat 0), .int .i64 (.ofNat 0), .int .i64 (.ofNat 0), .int .i64 (.ofNat 0), .int .i64 (.ofNat 0), .int .i64 (.ofNat 0), .int .i64 (.ofNat 0), .int .i64 (.ofNat 0), .int .i64 (.ofNat 0), .int .i64 (.ofNat 0), .int .i64 (.ofNat 0), .int .i64 (.ofNat 0), .int .i64 (.ofNat 0), .int .i64 (.ofNat 0), .int .i64 (.ofNat 0), .int .i64 (.ofNat 0), .int .i64 (.ofNat 0), .int .i64 (.ofNat 0), .int .i64 (.ofNat 0), .int .i64 (.ofNat 0), .int .i64 (.ofNat 0), .int .i64 (.ofNat 0), .int .i64 (.ofNat 0), .int .i64 (.ofNat 0), .int .i64 (.ofNat 0), .int .i64 (.ofNat 0), .int .i64 (.ofNat 0), .int .i64 (.ofNat 0), .int .i64 (.ofNat 0), .int .i64 (.ofNat 0), .int .i64 (.ofNat 0), .int .i64 (.ofNat 0), .int .i64 (.ofNat 0), .int .i64 (.ofNat 0), .int .i64 (.ofNat 0), .int .i64 (.ofNat 0), .int .i64 (.ofNat 0), .int .i64 (.ofNat 0), .int .i64 (.ofNat 0), .int .i64 (.ofNat 0), .int .i64 (.ofNat 0), .int .i64 (.ofNat 0), .int .i64 (.ofNat 0), .int .i64 (.ofNat 0), .int .i64 (.ofNat 0), .int .i64 (.ofNat 0), .int .i64 (.ofNat 0), .int .i64 (.ofNat 0), .int .i64 (.ofNat 0), .int .i64 (.ofNat 0), .int .i64 (.ofNat 0), .int .i64 (.ofNat 0), .int .i64 (.ofNat 0), .int .i64 (.ofNat 0), .int .i64 (.ofNat 0), .int .i64 (.ofNat 0), .int .i64 (.ofNat 0), .int .i64 (.ofNat 0), .int .i64 (.ofNat 0), .int .i64 (.ofNat 0), .int .i64 (.ofNat 0), .int .i64 (.ofNat 0), .int .i64 (.ofNat 0), .int .i64 (.ofNat 0), .int .i64 (.ofNat 0), .int .i64 (.ofNat 0), .int .i64 (.ofNat 0), .int .i64 (.ofNat 0), .int .i64 (.ofNat 0), .int .i64 (.ofNat 0), .int .i64 (.ofNat 0), .int .i64 (.ofNat 0), .int .i64 (.ofNat 0), .int .i64 (.ofNat 0), .int .i64 (.ofNat 0), .int .i64 (.ofNat 0), .int .i64 (.ofNat 0), .int .i64 (.ofNat 1), .int .i64 (.ofNat 0), .int .i64 (.ofNat 1), .int .i64 (.ofNat 0), .int .i64 (.ofNat 0), .int .i64 (.ofNat 1), .int .i64 (.ofNat 1), .int .i64 (.ofNat 0), .int .i64 (.ofNat 0), .int .i64 (.ofNat 0), .int .i64 (.ofNat 1), .int .i64 (.ofNat 0), .int .i64 (.ofNat 0), .int .i64 (.ofNat 1), .int .i64 (.ofNat 1), .int .i64 (.ofNat 1), .int .i64 (.ofNat 1), .int .i64 (.ofNat 0), .int .i64 (.ofNat 1), .int .i64 (.ofNat 0), .int .i64 (.ofNat 1), .int .i64 (.ofNat 0), .int .i64 (.ofNat 0), .int .i64 (.ofNat 0), .int .i64 (.ofNat 0), .int .i64 (.ofNat 0), .int .i64 (.ofNat 0), .int .i64 (.ofNat 0), .int .i64 (.ofNat 0), .int .i64 (.ofNat 0), .int .i64 (.ofNat 0), .int .i64 (.ofNat 0), .int .i64 (.ofNat 0), .int .i64 (.ofNat 0), .int .i64 (.ofNat 0), .int .i64 (.ofNat 0), .int .i64 (.ofNat 0), .int .i64 (.ofNat 0), .int .i64 (.ofNat 0), .int .i64 (.ofNat 1), .int .i64 (.ofNat 1), .int .i64 (.ofNat 1), .int .i64 (.ofNat 0), .int .i64 (.ofNat 0), .int .i64 (.ofNat 0), .int .i64 (.ofNat 1), .int .i64 (.ofNat 0), .int .i64 (.ofNat 1), .int .i64 (.ofNat 1), .int .i64 (.ofNat 0), .int .i64 (.ofNat 1), .int .i64 (.ofNat 1), .int .i64 (.ofNat 0), .int .i64 (.ofNat 0), .int .i64 (.ofNat 1), .int .i64 (.ofNat 1), .int .i64 (.ofNat 1), .int .i64 (.ofNat 1), .int .i64 (.ofNat 1), .int .i64 (.ofNat 0), .int .i64 (.ofNat 0), .int .i64 (.ofNat 1), .int .i64 (.ofNat 1), .int .i64 (.ofNat 1), .int .i64 (.ofNat 1)]
theorem bitsW_eq : bitsW = vs .i64 bitsL := by kernel_rfl
theorem bitsL_len : bitsL.length = 352 := by kernel_rfl
theorem bitsL_bin : Bin bitsL := by
  have h : bitsL.all (fun x => decide (0 ≤ x ∧ x ≤ 1)) = true := by kernel_rfl
  intro x hx
  exact of_decide_eq_true (List.all_eq_true.1 h x hx)
theorem bits_read : ltread TT0 bitsL 0 = (tabL, 292, 0) := by kernel_rfl
noncomputable def sum103 (args : List Value) (h : AH) : Option (Option (Value × AH)) := match args with
  | [.slice a n c] => cond (Nat.beq n 352) (match aelems 1 352 h (.slice a n c) with
    | some l => cond (eqQ l bitsW) (tell (.tuple [.agg tabV.toArray, .int .i64 292, .int .i64 0].toArray) h) none
    | none => none) none
  | _ => none
theorem sum103_ok {args : List Value} {h : AH} {v : Value} {h' : AH} (hx : sum103 args h = some (some (v, h'))) {w0 : Base} {e : En} {w : World} {args' : List Value} (hv : VRs e args args') (hr : HX e h w0 w) :
    Calls Tryz.prog 103 args'.toArray w fun x w' => ∃ u e', x = .returned u ∧ e.le e' ∧ VR e' v u ∧ HX e' h' w0 w' := by
  unfold sum103 at hx
  split at hx
  · rename_i a n c
    cases hb : Nat.beq n 352 with
    | false => rw [hb] at hx; cases hx
    | true =>
      rw [hb] at hx
      simp only [cond_true] at hx
      have hn := Nat.eq_of_beq_eq_true hb
      subst hn
      split at hx
      · rename_i l hel
        cases hq : eqQ l bitsW with
        | false => rw [hq] at hx; cases hx
        | true =>
          rw [hq] at hx
          cases hx
          have hl := eqQ_eq hq
          cases hv with
          | cons hv1 hv2 =>
          cases hv2
          obtain ⟨g, off, m, c', us, e1, e2, ⟨_, _, e3⟩, e4, e5, e6⟩ := elems_sound hr hel hv1 (fun _ _ _ h => by cases h; exact Nat.le_refl _) (by omega)
          cases e3
          subst e1
          rw [hl, bitsW_eq] at e4
          have hus := flats_eq (vs_flat .i64 bitsL) e4
          have hin : In .i64 w (.slice (some ⟨g, off, none⟩) 352 c') bitsL := by
            refine ⟨some ⟨g, off, none⟩, c', by rw [bitsL_len], fun i hi => ⟨_, rfl, e6 i _ ?_⟩⟩
            rw [hus]
            exact get_vs .i64 bitsL i hi
          refine told_call (ltread_any _ bitsL w hin bitsL_bin (by rw [bitsL_len]; omega)) ?_ hr
          rw [bits_read]
          have : Value.agg (J .u8 tabL) = .agg tabV.toArray := by rw [tabV_eq]; rfl
          simp only [this]
          exact .tuple (a' := [.agg tabV.toArray, .int .i64 292, .int .i64 0]) (.cons (flats_self (by rw [tabV_eq]; exact vs_flat _ _)) (.cons (.int _ _) (.cons (.int _ _) .nil)))
      · cases hx
  · cases hx
noncomputable def sumC : ASum := fun D f args h => cond (Nat.beq f 103) (sum103 args h) (sumB D f args h)
theorem sumC_ok : SumOk Tryz.prog sumC := by
  intro D hD f args h v h' hx w0 e w args' hv hr
  unfold sumC at hx
  cases hb : Nat.beq f 103 with
  | true =>
    rw [hb] at hx
    obtain rfl := Nat.eq_of_beq_eq_true hb
    exact sum103_ok hx hv hr
  | false =>
    rw [hb] at hx
    exact sumB_ok D hD f args h v h' hx w0 e w args' hv hr
end Go.Proofs.YtkpbhdhkdonghaaGreat
