/-
  The walk of winepresslaw23.PolicyPicks.
-/
import Derived.Test.YtihocpbkibfpmaaPolPa
import Derived.Test.YtihocpbkibfpmaaPolPb
import Derived.Test.YtihocpbkibfpmaaPolPc
import Derived.Test.YtihocpbkibfpmaaPolPd
namespace Go.Proofs.Ytihocpbkibfpmaa
open Go Go.RowKit

theorem bu_facts {b n s : Int} (h1 : need n s 1 ≤ b) (m2 : need n s 2 ≤ need n s 3) : (1 ≤ bu b n s 3 → need n s 1 ≤ b) ∧ (2 ≤ bu b n s 3 → need n s 2 ≤ b) ∧ (3 ≤ bu b n s 3 → need n s 3 ≤ b) ∧ (bu b n s 3 < 1 → b < need n s 1) ∧ (bu b n s 3 < 2 → b < need n s 2) ∧ (bu b n s 3 < 3 → b < need n s 3) := by
  have e : bu b n s 3 = if need n s 3 ≤ b then 3 else if need n s 2 ≤ b then 2 else if need n s 1 ≤ b then 1 else 1 := rfl
  rw [e]
  split
  · omega
  split
  · omega
  first | (split <;> omega) | omega
theorem bu_mono {b k n s : Int} (h : b ≤ k) : bu b n s 3 ≤ bu k n s 3 := by
  have e : ∀ b, bu b n s 3 = if need n s 3 ≤ b then 3 else if need n s 2 ≤ b then 2 else if need n s 1 ≤ b then 1 else 1 := fun _ => rfl
  rw [e, e]
  split <;> split <;> (try split) <;> (try split) <;> (try split) <;> (try split) <;> omega
theorem picks_s (b k n s : Int) (hs : (Lit.int .u8 s).wf = true) (ha : argOk n s 1) (hb : bdOk b) (hk : bdOk k) : (∀ w, Calls Try.prog 13 #[.int .i64 b, .int .i64 n, .int .u8 s] w (PickPost w (pkd b n s 3))) ∧ (∀ w, Calls Try.prog 13 #[.int .i64 k, .int .i64 n, .int .u8 s] w (PickPost w (pkd k n s 3))) ∧ (∀ w, Calls Try.prog 11 #[.int .i64 n, .int .u8 s] w (NeedPost w (need n s 1) 0)) ∧ (∀ m, m = 1 ∨ m = 2 ∨ m = 3 → (Lit.int .u8 m).wf = true → ∀ w, Calls Try.prog 9 #[.int .i64 n, .int .u8 s, .int .u8 m] w (NeedPost w (need n s m) 0)) := by
  refine ⟨fun w => ?_, fun w => ?_, fun w => ?_, fun m hm hw w => ?_⟩
  · have := pick_any b n s w hs; rwa [pk, if_pos ⟨ha, hb⟩] at this
  · have := pick_any k n s w hs; rwa [pk, if_pos ⟨ha, hk⟩] at this
  · have := least_any n s w hs; rwa [er_ok ha] at this
  · have := need_any n s m w hs hw; rwa [er_ok ⟨ha.1, ha.2.1, ha.2.2.1, hm⟩] at this
theorem picks1 (b k n : Int) (w : World) (g0 : ¬ b < 1) (g1 : ¬ 1048576 < b) (g2 : ¬ k < 1) (g3 : ¬ 1048576 < k) (g4 : ¬ n < 1) (g5 : ¬ 65536 < n) : Calls Try.prog 4 #[.int .i64 b, .int .i64 k, .int .i64 n, .bool false] w fun e w' => e = .returned (.bool true) ∧ Below w.heap.size w w' := by
  have ha : argOk n 1 1 := ⟨by omega, by omega, by omega, by omega⟩
  have hb : bdOk b := ⟨by omega, by omega⟩
  have hk : bdOk k := ⟨by omega, by omega⟩
  obtain ⟨c1, c2, c3, c4⟩ := picks_s b k n 1 rfl ha hb hk
  obtain ⟨m0, m1, m2, m3, m4⟩ := need_mono ha
  have hn := ha.1
  by_cases hL : need n 1 1 ≤ b
  · rw [bu_pkd hL] at c1
    obtain ⟨F1, F2, F3, G1, G2, G3⟩ := bu_facts hL m2
    by_cases hK : need n 1 1 ≤ k
    · rw [bu_pkd hK] at c2
      by_cases h1 : b < k
      · exact plt1 b k n _ _ _ _ _ w g0 g1 g2 g3 g4 g5 c1 c2 c3 (c4 1 (.inl rfl) rfl) (c4 2 (.inr (.inl rfl)) rfl) (c4 3 (.inr (.inr rfl)) rfl) (by omega) (by omega) hL h1 (bu_mono (by omega)) (by omega) m1 m2 m3 F1 F2 F3 G1 G2 G3
      · by_cases h2 : k < b
        · exact pgt1 b k n _ _ _ _ _ w g0 g1 g2 g3 g4 g5 c1 c2 c3 (c4 1 (.inl rfl) rfl) (c4 2 (.inr (.inl rfl)) rfl) (c4 3 (.inr (.inr rfl)) rfl) (by omega) (by omega) hL h2 (by omega) m1 m2 m3 F1 F2 F3 G1 G2 G3
        · have h3 : b = k := by omega
          exact peq1 b k n _ _ _ _ _ w g0 g1 g2 g3 g4 g5 c1 c2 c3 (c4 1 (.inl rfl) rfl) (c4 2 (.inr (.inl rfl)) rfl) (c4 3 (.inr (.inr rfl)) rfl) (by omega) (by omega) hL h3 (by rw [h3]) (by omega) m1 m2 m3 F1 F2 F3 G1 G2 G3
    · rw [pkd_none (by omega) m1 m2] at c2
      exact pN1 b k n _ _ _ _ _ w g0 g1 g2 g3 g4 g5 c1 c2 c3 (c4 1 (.inl rfl) rfl) (c4 2 (.inr (.inl rfl)) rfl) (c4 3 (.inr (.inr rfl)) rfl) (by omega) (by omega) hL (by omega) m1 m2 m3 F1 F2 F3 G1 G2 G3
  · rw [pkd_none (by omega) m1 m2] at c1
    exact pno1 b k n _ _ _ w g0 g1 g2 g3 g4 g5 c1 c2 c3 (by omega) (by omega) hL
theorem picks2 (b k n : Int) (w : World) (g0 : ¬ b < 1) (g1 : ¬ 1048576 < b) (g2 : ¬ k < 1) (g3 : ¬ 1048576 < k) (g4 : ¬ n < 1) (g5 : ¬ 65536 < n) : Calls Try.prog 4 #[.int .i64 b, .int .i64 k, .int .i64 n, .bool true] w fun e w' => e = .returned (.bool true) ∧ Below w.heap.size w w' := by
  have ha : argOk n 2 1 := ⟨by omega, by omega, by omega, by omega⟩
  have hb : bdOk b := ⟨by omega, by omega⟩
  have hk : bdOk k := ⟨by omega, by omega⟩
  obtain ⟨c1, c2, c3, c4⟩ := picks_s b k n 2 rfl ha hb hk
  obtain ⟨m0, m1, m2, m3, m4⟩ := need_mono ha
  have hn := ha.1
  by_cases hL : need n 2 1 ≤ b
  · rw [bu_pkd hL] at c1
    obtain ⟨F1, F2, F3, G1, G2, G3⟩ := bu_facts hL m2
    by_cases hK : need n 2 1 ≤ k
    · rw [bu_pkd hK] at c2
      by_cases h1 : b < k
      · exact plt2 b k n _ _ _ _ _ w g0 g1 g2 g3 g4 g5 c1 c2 c3 (c4 1 (.inl rfl) rfl) (c4 2 (.inr (.inl rfl)) rfl) (c4 3 (.inr (.inr rfl)) rfl) (by omega) (by omega) hL h1 (bu_mono (by omega)) (by omega) m1 m2 m3 F1 F2 F3 G1 G2 G3
      · by_cases h2 : k < b
        · exact pgt2 b k n _ _ _ _ _ w g0 g1 g2 g3 g4 g5 c1 c2 c3 (c4 1 (.inl rfl) rfl) (c4 2 (.inr (.inl rfl)) rfl) (c4 3 (.inr (.inr rfl)) rfl) (by omega) (by omega) hL h2 (by omega) m1 m2 m3 F1 F2 F3 G1 G2 G3
        · have h3 : b = k := by omega
          exact peq2 b k n _ _ _ _ _ w g0 g1 g2 g3 g4 g5 c1 c2 c3 (c4 1 (.inl rfl) rfl) (c4 2 (.inr (.inl rfl)) rfl) (c4 3 (.inr (.inr rfl)) rfl) (by omega) (by omega) hL h3 (by rw [h3]) (by omega) m1 m2 m3 F1 F2 F3 G1 G2 G3
    · rw [pkd_none (by omega) m1 m2] at c2
      exact pN2 b k n _ _ _ _ _ w g0 g1 g2 g3 g4 g5 c1 c2 c3 (c4 1 (.inl rfl) rfl) (c4 2 (.inr (.inl rfl)) rfl) (c4 3 (.inr (.inr rfl)) rfl) (by omega) (by omega) hL (by omega) m1 m2 m3 F1 F2 F3 G1 G2 G3
  · rw [pkd_none (by omega) m1 m2] at c1
    exact pno2 b k n _ _ _ w g0 g1 g2 g3 g4 g5 c1 c2 c3 (by omega) (by omega) hL
theorem picks23 (b k n : Int) (d : Bool) (w : World) : Calls Try.prog 4 #[.int .i64 b, .int .i64 k, .int .i64 n, .bool d] w fun e w' => e = .returned (.bool true) ∧ Below w.heap.size w w' := by
  by_cases g0 : b < 1
  · exact pw1 b k n d w g0
  by_cases g1 : 1048576 < b
  · exact pw2 b k n d w g0 g1
  by_cases g2 : k < 1
  · exact pw3 b k n d w g0 g1 g2
  by_cases g3 : 1048576 < k
  · exact pw4 b k n d w g0 g1 g2 g3
  by_cases g4 : n < 1
  · exact pw5 b k n d w g0 g1 g2 g3 g4
  by_cases g5 : 65536 < n
  · exact pw6 b k n d w g0 g1 g2 g3 g4 g5
  cases d
  · exact picks1 b k n w g0 g1 g2 g3 g4 g5
  · exact picks2 b k n w g0 g1 g2 g3 g4 g5
end Go.Proofs.Ytihocpbkibfpmaa
