/-
  The plain law of the references of zero runs: what they compute is told by the same functions. No program in sight.
-/
import Derived.Test.YtaccjnekonmkoaaZrQ
import Derived.Test.YtaccjnekonmkoaaSlc
namespace Go.Proofs.Ytaccjnekonmkoaa
open Go Go.RowKit

theorem numF_two : ∀ (l : List Int) (n : Int) (i : Nat), (numF l n i).2 = 0 ∨ numF l n i = (0, 2)
  | [], _, _ => .inl rfl
  | d :: l, n, i => by
    rw [numF]
    split
    · exact numF_two l _ _
    · exact .inr rfl
theorem addV_ge {n d : Int} {k : Nat} (h : addE n k d = 0) : n + 1 ≤ addV n k d ∧ (d = 0 ∨ d = 1) ∧ 0 ≤ n ∧ addV n k d ≤ 2147483647 ∧ k ≤ 30 ∧ addV n k d = n + (1 + d) * 2 ^ k := by
  unfold addE at h
  split at h
  · rename_i ha
    have hw := dig_worth k ha.1.2.2.2.2
    have h2 := ha.2
    rw [addV, if_pos ha, addS_step]
    rw [addS_step] at h2
    exact ⟨by omega, ha.1.2.2.2.2, ha.1.1, h2, by have := ha.1.2.2.2.1; omega, rfl⟩
  · cases h
theorem numF_ge : ∀ (l : List Int) (n : Int) (i : Nat), (numF l n i).2 = 0 → n ≤ (numF l n i).1
  | [], _, _, _ => Int.le_refl _
  | d :: l, n, i, h => by
    rw [numF] at h ⊢
    by_cases he : addE n i d = 0
    · rw [if_pos he] at h ⊢
      have := (addV_ge he).1
      have := numF_ge l _ _ h
      omega
    · rw [if_neg he] at h; cases h
/-- What Unfold makes of digits, told by Number. -/
theorem ugo_num (most : Int) (out rest : List Int) : ∀ (l : List Int) (run : Int) (many : Nat), Dig l →
    ugo most (l ++ rest) run many out = if (numF l run many).2 = 0 ∧ (l = [] ∨ (numF l run many).1 ≤ most - out.length) then ugo most rest (numF l run many).1 (many + l.length) out else ([], 2)
  | [], run, many, _ => by simp [numF]
  | d :: l, run, many, hd => by
    have hd0 := hd d (List.mem_cons_self ..)
    have hd1 : Dig l := fun x hx => hd x (List.mem_cons_of_mem _ hx)
    rw [List.cons_append, ugo, if_pos hd0, numF]
    by_cases he : addE run many d = 0
    · rw [if_pos he]
      have hge := numF_ge l (addV run many d) (many + 1)
      by_cases hf : addV run many d ≤ most - out.length
      · rw [if_pos ⟨he, hf⟩, ugo_num most out rest l _ _ hd1, List.length_cons, show many + 1 + l.length = many + (l.length + 1) by omega]
        by_cases h2 : (numF l (addV run many d) (many + 1)).2 = 0
        · by_cases hq : (numF l (addV run many d) (many + 1)).1 ≤ most - out.length
          · rw [if_pos ⟨h2, .inr hq⟩, if_pos ⟨h2, .inr hq⟩]
          · by_cases hn : l = []
            · subst hn; exact absurd hf hq
            · rw [if_neg (fun h => h.2.elim hn hq), if_neg (fun h => h.2.elim (by simp) hq)]
        · rw [if_neg (fun h => h2 h.1), if_neg (fun h => h2 h.1)]
      · rw [if_neg (fun h => hf h.2), if_neg (fun h => h.2.elim (by simp) (fun hq => hf (by have := hge h.1; omega)))]
    · rw [if_neg (fun h => he h.1), if_neg he, if_neg (fun h => by cases h.1)]
theorem fgo_zeros : ∀ (j : Nat) (rest : List Int) (r : Nat) (out : List Int), fgo (List.replicate j 0 ++ rest) r out = fgo rest (r + j) out
  | 0, rest, r, out => by simp
  | j + 1, rest, r, out => by
    rw [List.replicate_succ, List.cons_append, fgo, if_neg (by omega), if_pos rfl, fgo_zeros j rest (r + 1) out, show r + 1 + j = r + (j + 1) by omega]
theorem fgo_flush (rest : List Int) (j : Nat) (out : List Int) (h : ∀ p t, rest = p :: t → p ≠ 0) : fgo rest j out = fgo rest 0 (out ++ dg j) := by
  cases rest with
  | nil => rw [fgo, fgo, dg_zero, List.append_nil]
  | cons p t =>
    have hp := h p t rfl
    rw [fgo, fgo, if_neg hp, if_neg hp, dg_zero, List.append_nil]
theorem seg_zeros {l : List Int} {i k : Nat} (hk : k ≤ l.length) (h : ∀ j, i ≤ j → j < k → gi l j = 0) : seg l i k = List.replicate (k - i) 0 := by
  refine List.eq_replicate_iff.2 ⟨seg_len hk, seg_all hk (· = 0) h⟩
end Go.Proofs.Ytaccjnekonmkoaa
