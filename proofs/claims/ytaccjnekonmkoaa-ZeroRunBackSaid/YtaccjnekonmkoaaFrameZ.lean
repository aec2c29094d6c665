/-
  The frame's own parts: a slice of integers that came in.
-/
import Derived.Test.YtaccjnekonmkoaaFrame
namespace Go.Proofs.Ytaccjnekonmkoaa
open Go Go.RowKit Go.ChangeShapes Go.WideShapes Go.ChangeAt

theorem open_sl39 {H : Type} {enc : TypeId × Value → H} {W : World} {base : Nat} {sp : Nat → Bool} {held : Bool} {v : Value} {d : DataW H} {p : List MemPlace} {r : Reach} {b0 : Nat} (hok : Value.okWide Try.prog W r b0 39 v) (hd : DataW.Trod enc Try.prog W base sp held 39 v d p) :
    ∃ l, Src W v (vs .i64 l) ∧ True ∧ l.length ≤ maxLen := by
  obtain ⟨ad, len, cap, rfl⟩ := okWide_slice Try.underlying39 hok
  obtain ⟨fuel, hf⟩ := hd
  rcases open_ints Try.underlying39 Try.underlying3 (by kernel_rfl) hf with ⟨hcs, _⟩ | ⟨x, l, c, zs, hcs, _, hl, hm, hz, _, hcell, hwz⟩
  · simp [Value.cells] at hcs
    obtain ⟨rfl, rfl, rfl⟩ := hcs
    exact ⟨[], .inl ⟨rfl, rfl⟩, trivial, by simp⟩
  · simp [Value.cells] at hcs
    obtain ⟨rfl, rfl, rfl⟩ := hcs
    have hlz : len ≤ zs.length := by rw [hz]; split <;> omega
    have ht : (zs.take len).length = len := by rw [List.length_take]; omega
    refine ⟨zs.take len, .inr ⟨x, cap, by rw [length_vs, ht], fun i u hi => ?_⟩, trivial, by omega⟩
    have hlt : i < (zs.take len).length := by
      have := (List.getElem?_eq_some_iff.1 hi).1
      rwa [length_vs] at this
    rw [ht] at hlt
    rw [hcell i (by omega), ← hi]
    simp [vs, List.getD_eq_getElem?_getD, hlt, show i < zs.length by omega]
end Go.Proofs.Ytaccjnekonmkoaa
