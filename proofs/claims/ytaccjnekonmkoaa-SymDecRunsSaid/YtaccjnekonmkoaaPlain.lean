/-
  The plain functions of layer 13: a list of 256 bytes, 'take', 'put', and lists in the making. No Go in sight.
-/
import Derived.Test.YtaccjnekonmkoaaLaws
namespace Go.Proofs.Ytaccjnekonmkoaa
open Go Go.RowKit

def zeros : List Int := List.replicate 256 0
theorem len_zeros : zeros.length = 256 := List.length_replicate ..
/-- The first k numbers of the initial list, zeros behind. -/
def newUp (k : Nat) : List Int := (List.range 256).map (fun (i : Nat) => if i < k then (i : Int) else 0)
def new : List Int := newUp 256
theorem len_newUp (k : Nat) : (newUp k).length = 256 := by rw [newUp, List.length_map, List.length_range]
theorem len_new : new.length = 256 := len_newUp 256
theorem newUp_step (k : Nat) : (newUp k).set k k = newUp (k + 1) := by
  apply List.ext_getElem?
  intro i
  simp only [newUp, List.getElem?_set, List.getElem?_map, List.length_map, List.length_range]
  by_cases h : k = i
  · subst h
    by_cases h2 : k < 256
    · simp [h2]
    · simp [h2]
  · simp only [h, if_false]
    by_cases h2 : i < 256
    · rw [List.getElem?_range h2]
      simp only [Option.map_some, Option.some.injEq]
      by_cases h3 : i < k
      · rw [if_pos h3, if_pos (by omega)]
      · rw [if_neg h3, if_neg (by omega)]
    · rw [List.getElem?_eq_none (by rw [List.length_range]; omega)]
      rfl

/-- Element k first, the others in their order. -/
def front (l : List Int) (k : Nat) : List Int := gi l k :: l.eraseIdx k
theorem len_front (l : List Int) (k : Nat) (h : k < l.length) : (front l k).length = l.length := by
  simp [front, List.length_eraseIdx, h]; omega
/-- l, the elements from i on moved up by one place as far as place k. -/
def sh (l : List Int) (k i : Nat) : List Int := l.take (i + 1) ++ ((l.take k).drop i ++ l.drop (k + 1))
theorem len_sh (l : List Int) (k i : Nat) (h : k < l.length) (hi : i ≤ k) : (sh l k i).length = l.length := by
  simp [sh]; omega
theorem sh_top (l : List Int) (k : Nat) : sh l k k = l := by
  simp [sh]
theorem get?_sh (l : List Int) (k i j : Nat) (h : k < l.length) (hi : i ≤ k) : (sh l k i)[j]? = if j ≤ i then l[j]? else if j ≤ k then l[j - 1]? else l[j]? := by
  simp only [sh, List.getElem?_append, List.length_take, List.length_drop, List.getElem?_take, List.getElem?_drop]
  by_cases h1 : j ≤ i
  · rw [if_pos (by omega), if_pos (by omega), if_pos h1]
  · rw [if_neg (by omega), if_neg h1]
    by_cases h2 : j ≤ k
    · rw [if_pos (by omega), if_pos (by omega), if_pos h2]
      congr 1
      omega
    · rw [if_neg (by omega), if_neg h2]
      congr 1
      omega
theorem gi_sh (l : List Int) (k i : Nat) (h : k < l.length) (hi : i < k) : gi (sh l k (i + 1)) i = gi l i := by
  simp only [gi, List.getD_eq_getElem?_getD, get?_sh l k (i + 1) i h (by omega), if_pos (show i ≤ i + 1 by omega)]
theorem sh_step (l : List Int) (k i : Nat) (h : k < l.length) (hi : i < k) : (sh l k (i + 1)).set (i + 1) (gi l i) = sh l k i := by
  apply List.ext_getElem?
  intro j
  have hl := len_sh l k (i + 1) h (by omega)
  rw [List.getElem?_set, get?_sh l k i j h (by omega), get?_sh l k (i + 1) j h (by omega), hl]
  by_cases h1 : i + 1 = j
  · subst h1
    rw [if_pos rfl, if_pos (by omega), if_neg (by omega), if_pos (by omega)]
    simp [gi, List.getD_eq_getElem?_getD, List.getElem?_eq_getElem (show i < l.length by omega)]
  · rw [if_neg h1]
    by_cases h2 : j ≤ i
    · rw [if_pos (by omega), if_pos h2]
    · rw [if_neg (by omega), if_neg h2]
theorem sh_end (l : List Int) (k : Nat) (h : k < l.length) : (sh l k 0).set 0 (gi l k) = front l k := by
  cases l with
  | nil => simp at h
  | cons a l =>
    simp [sh, front, List.eraseIdx_eq_take_drop_succ]
theorem sh_zero (l : List Int) (k : Nat) (h : k < l.length) : sh l k 0 = l.take 1 ++ l.take k ++ l.drop (1 + (l.take k).length) := by
  simp [sh, Nat.min_eq_left (Nat.le_of_lt h), Nat.add_comm]

/-- 'Take' of P13.2: the list, the byte, whether there is one. -/
def takeL (l : List Int) (p : Int) : List Int := if 0 ≤ p ∧ p < 256 then front l p.toNat else l
def takeC (l : List Int) (p : Int) : Int := if 0 ≤ p ∧ p < 256 then gi l p.toNat else 0
def takeB (p : Int) : Bool := decide (0 ≤ p ∧ p < 256)
theorem len_takeL (l : List Int) (p : Int) (h : l.length = 256) : (takeL l p).length = 256 := by
  unfold takeL
  split
  · rw [len_front]
    · exact h
    · omega
  · exact h
/-- 'Put' of P13.2. -/
def pos (l : List Int) (c : Int) : Int := if l.findIdx (· == c) < l.length then (l.findIdx (· == c) : Int) else -1
def putL (l : List Int) (c : Int) : List Int := takeL l (pos l c)

/-! ### Valid -/
def one (k : Nat) : List Int := (List.range 256).map (fun (i : Nat) => if i < k then (1 : Int) else 0)
def ones : List Int := one 256
theorem len_one (k : Nat) : (one k).length = 256 := by rw [one, List.length_map, List.length_range]
theorem one_step (k : Nat) : (one k).set k 1 = one (k + 1) := by
  apply List.ext_getElem?
  intro i
  simp only [one, List.getElem?_set, List.getElem?_map, List.length_map, List.length_range]
  by_cases h : k = i
  · subst h
    by_cases h2 : k < 256
    · simp [h2]
    · simp [h2]
  · simp only [h, if_false]
    by_cases h2 : i < 256
    · rw [List.getElem?_range h2]
      simp only [Option.map_some, Option.some.injEq]
      by_cases h3 : i < k
      · rw [if_pos h3, if_pos (by omega)]
      · rw [if_neg h3, if_neg (by omega)]
    · rw [List.getElem?_eq_none (by rw [List.length_range]; omega)]
      rfl
/-- 1 at the bytes that are among the first k of l. -/
def seenUp (l : List Int) (k : Nat) : List Int := (List.range 256).map (fun (i : Nat) => if (l.take k).contains (i : Int) then (1 : Int) else 0)
theorem len_seenUp (l : List Int) (k : Nat) : (seenUp l k).length = 256 := by rw [seenUp, List.length_map, List.length_range]
theorem seenUp_step (l : List Int) (k : Nat) (hk : k < l.length) (hb : 0 ≤ gi l k) : (seenUp l k).set (gi l k).toNat 1 = seenUp l (k + 1) := by
  have e : l.take (k + 1) = l.take k ++ [gi l k] := by
    rw [List.take_succ_eq_append_getElem hk]
    simp [gi, List.getD_eq_getElem?_getD, List.getElem?_eq_getElem hk]
  apply List.ext_getElem?
  intro i
  simp only [seenUp, e, List.getElem?_set, List.getElem?_map, List.length_map, List.length_range]
  by_cases h2 : i < 256
  · rw [List.getElem?_range h2]
    by_cases h : (gi l k).toNat = i
    · rw [if_pos h, if_pos (by omega)]
      have : (i : Int) = gi l k := by omega
      simp [this]
    · rw [if_neg h]
      have : ¬ (i : Int) = gi l k := by omega
      simp [this]
  · rw [List.getElem?_eq_none (show (List.range 256).length ≤ i by rw [List.length_range]; omega)]
    split
    · rw [if_neg (by omega)]; rfl
    · rfl
/-- Every byte is in l. -/
def vld (l : List Int) : Bool := seenUp l 256 == ones
/-- No byte is twice in l. -/
def dis (l : List Int) : Bool := decide (l.Nodup)

end Go.Proofs.Ytaccjnekonmkoaa
