/-
  The plain law of digits: a number's digits are worth the number, and they are one fewer than the binary digits of the next number. No program in sight.
-/
import Derived.Test.YtaccjnekonmkoaaZrG
namespace Go.Proofs.Ytaccjnekonmkoaa
open Go Go.RowKit

/-- What digits from place i on are worth. -/
def val : Nat → List Int → Int
  | _, [] => 0
  | i, d :: l => (1 + d) * 2 ^ i + val (i + 1) l
def Dig (l : List Int) : Prop := ∀ d ∈ l, d = 0 ∨ d = 1
theorem pow_pos2 (i : Nat) : (1 : Int) ≤ 2 ^ i := by
  have e : ((2 ^ i : Nat) : Int) = (2 : Int) ^ i := by push_cast; rfl
  have : 0 < 2 ^ i := Nat.pow_pos (by omega)
  rw [← e]; omega
theorem dig_worth {d : Int} (i : Nat) (h : d = 0 ∨ d = 1) : 1 ≤ (1 + d) * (2 : Int) ^ i := by
  have := pow_pos2 i
  rcases h with rfl | rfl <;> omega
theorem val_pos : ∀ (l : List Int) (i : Nat), Dig l → 0 ≤ val i l
  | [], _, _ => Int.le_refl _
  | d :: l, i, h => by
    have h1 := dig_worth i (h d (List.mem_cons_self ..))
    have h2 := val_pos l (i + 1) (fun x hx => h x (List.mem_cons_of_mem _ hx))
    rw [val]; omega
theorem dig_dg (k : Nat) : ∀ n, n ≤ k → Dig (dg n) := by
  induction k with
  | zero => intro n hn; obtain rfl : n = 0 := by omega
            intro d hd; rw [dg_zero] at hd; exact absurd hd (by simp)
  | succ k ih =>
    intro n hn
    by_cases h0 : n = 0
    · subst h0; intro d hd; rw [dg_zero] at hd; exact absurd hd (by simp)
    · intro d hd
      rw [dg_step n (by omega)] at hd
      rcases List.mem_cons.1 hd with rfl | hd
      · omega
      · exact ih ((n - 1) / 2) (by omega) d hd
theorem val_dg (k : Nat) : ∀ n, n ≤ k → ∀ i, val i (dg n) = n * 2 ^ i := by
  induction k with
  | zero => intro n hn i; obtain rfl : n = 0 := by omega
            simp [dg_zero, val]
  | succ k ih =>
    intro n hn i
    by_cases h0 : n = 0
    · subst h0; simp [dg_zero, val]
    · rw [dg_step n (by omega), val, ih ((n - 1) / 2) (by omega) (i + 1)]
      have e1 : (2 : Int) ^ (i + 1) = 2 * 2 ^ i := by rw [Int.pow_succ, Int.mul_comm]
      have e2 : (1 + ((n - 1 : Nat) : Int) % 2) + 2 * (((n - 1) / 2 : Nat) : Int) = n := by omega
      have e3 : ∀ a b p : Int, a * p + b * (2 * p) = (a + 2 * b) * p := fun a b p => by rw [Int.add_mul, Int.mul_comm 2 b, Int.mul_assoc]
      rw [e1, e3, e2]
theorem addS_step {n d : Int} {i : Nat} : addS n i d = n + (1 + d) * 2 ^ i := by rw [addS, Int.toNat_natCast]
theorem add_ok {n d : Int} {i : Nat} (h0 : 0 ≤ n) (hi : i ≤ 30) (hd : d = 0 ∨ d = 1) (hs : n + (1 + d) * 2 ^ i ≤ 2147483647) : addV n i d = n + (1 + d) * 2 ^ i ∧ addE n i d = 0 := by
  have hw := dig_worth i hd
  have ha : addOk n i d := ⟨h0, by omega, by omega, by omega, hd⟩
  rw [addV, addE, addS_step, if_pos ⟨ha, hs⟩, if_pos ⟨ha, hs⟩]
  exact ⟨rfl, rfl⟩
theorem numF_ok : ∀ (l : List Int) (n : Int) (i : Nat), 0 ≤ n → Dig l → i + l.length ≤ 31 → n + val i l ≤ 2147483647 → numF l n i = (n + val i l, 0)
  | [], n, i, _, _, _, _ => by rw [numF, val, Int.add_zero]
  | d :: l, n, i, h0, hd, hl, hs => by
    have hd1 : Dig l := fun x hx => hd x (List.mem_cons_of_mem _ hx)
    have hv := val_pos l (i + 1) hd1
    have hw := dig_worth i (hd d (List.mem_cons_self ..))
    rw [val] at hs
    rw [List.length_cons] at hl
    obtain ⟨e1, e2⟩ := add_ok h0 (by omega) (hd d (List.mem_cons_self ..)) (by omega : n + (1 + d) * 2 ^ i ≤ 2147483647)
    rw [numF, if_pos e2, e1, numF_ok l _ (i + 1) (by omega) hd1 (by omega) (by omega), val, Int.add_assoc]
theorem num_dg (m : Nat) (hm : m < 2 ^ 31) : numO (dg m) = ((m : Int), 0) := by
  have h := numF_ok (dg m) 0 0 (Int.le_refl _) (dig_dg m m (Nat.le_refl _)) (by have := len_dg 31 m hm; omega) (by rw [val_dg m m (Nat.le_refl _) 0]; simp; omega)
  rw [val_dg m m (Nat.le_refl _) 0] at h
  simpa [numO] using h
/-- How many binary digits a number has, told by digits. -/
def bl (m : Nat) : Nat := if m = 0 then 0 else (dg (m - 1)).length + 1
theorem bl_step (m : Nat) (h : 0 < m) : bl m = bl (m / 2) + 1 := by
  rw [bl, if_neg (by omega)]
  by_cases h1 : m = 1
  · subst h1; rfl
  · rw [dg_step (m - 1) (by omega), List.length_cons, bl, if_neg (by omega), show (m - 1 - 1) / 2 = m / 2 - 1 by omega]
theorem bl_le (m : Nat) (h : m ≤ 2 ^ 31) : bl m ≤ 32 := by
  rw [bl]
  split
  · omega
  · have := len_dg 31 (m - 1) (by omega)
    omega
end Go.Proofs.Ytaccjnekonmkoaa
