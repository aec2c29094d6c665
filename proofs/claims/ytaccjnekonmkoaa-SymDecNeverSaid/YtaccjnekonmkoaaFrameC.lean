/-
  The frame's own parts: a slice of integers that came in, with its capacity.
-/
import Derived.Test.YtaccjnekonmkoaaFrame
import Derived.Test.YtaccjnekonmkoaaSlc
namespace Go.Proofs.Ytaccjnekonmkoaa
open Go Go.RowKit Go.ChangeShapes Go.WideShapes Go.ChangeAt

theorem open_sl39c {H : Type} {enc : TypeId × Value → H} {W : World} {base : Nat} {sp : Nat → Bool} {held : Bool} {v : Value} {d : DataW H} {p : List MemPlace} {r : Reach} {b0 : Nat} (hok : Value.okWide Try.prog W r b0 39 v) (hd : DataW.Trod enc Try.prog W base sp held 39 v d p) :
    ∃ l, InC .i64 W v l ∧ True ∧ l.length ≤ maxLen := by
  obtain ⟨ad, len, cap, rfl⟩ := okWide_slice Try.underlying39 hok
  obtain ⟨fuel, hf⟩ := hd
  rcases open_ints Try.underlying39 Try.underlying3 (by kernel_rfl) hf with ⟨hcs, _⟩ | ⟨x, l, c, zs, hcs, _, hl, hm, hz, _, hcell, hwz⟩
  · simp [Value.cells] at hcs
    obtain ⟨rfl, rfl, rfl⟩ := hcs
    exact ⟨[], ⟨none, 0, rfl, by simp, fun i hi => absurd hi (by simp)⟩, trivial, by simp⟩
  · simp [Value.cells] at hcs
    obtain ⟨rfl, rfl, rfl⟩ := hcs
    have hlz : len ≤ zs.length := by rw [hz]; split <;> omega
    have ht : (zs.take len).length = len := by rw [List.length_take]; omega
    refine ⟨zs.take len, ⟨some x, cap, by rw [ht], by omega, fun i hi => ⟨x, rfl, ?_⟩⟩, trivial, by omega⟩
    rw [ht] at hi
    rw [hcell i (by omega)]
    simp [gi, List.getD_eq_getElem?_getD, hi]
theorem open_sl24c {H : Type} {enc : TypeId × Value → H} {W : World} {base : Nat} {sp : Nat → Bool} {held : Bool} {v : Value} {d : DataW H} {p : List MemPlace} {r : Reach} {b0 : Nat} (hok : Value.okWide Try.prog W r b0 24 v) (hd : DataW.Trod enc Try.prog W base sp held 24 v d p) :
    ∃ b, InC .u8 W v b ∧ Bytes b ∧ b.length ≤ maxLen := by
  obtain ⟨ad, len, cap, rfl⟩ := okWide_slice Try.underlying24 hok
  obtain ⟨fuel, hf⟩ := hd
  rcases open_ints Try.underlying24 Try.underlying5 (by kernel_rfl) hf with ⟨hcs, _⟩ | ⟨x, l, c, zs, hcs, _, hl, hm, hz, _, hcell, hwz⟩
  · simp [Value.cells] at hcs
    obtain ⟨rfl, rfl, rfl⟩ := hcs
    exact ⟨[], ⟨none, 0, rfl, by simp, fun i hi => absurd hi (by simp)⟩, fun x hx => absurd hx (by simp), by simp⟩
  · simp [Value.cells] at hcs
    obtain ⟨rfl, rfl, rfl⟩ := hcs
    have hlz : len ≤ zs.length := by rw [hz]; split <;> omega
    have ht : (zs.take len).length = len := by rw [List.length_take]; omega
    refine ⟨zs.take len, ⟨some x, cap, by rw [ht], by omega, fun i hi => ⟨x, rfl, ?_⟩⟩, fun y hy => byte_of (hwz y (List.mem_of_mem_take hy)), by omega⟩
    rw [ht] at hi
    rw [hcell i (by omega)]
    simp [gi, List.getD_eq_getElem?_getD, hi]
end Go.Proofs.Ytaccjnekonmkoaa
