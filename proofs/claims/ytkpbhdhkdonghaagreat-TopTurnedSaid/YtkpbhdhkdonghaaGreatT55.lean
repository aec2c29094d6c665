/-
  Part 55 of the proof.
-/
import Derived.Test.YtkpbhdhkdonghaaGreatRows
import Derived.WalkKit
import Derived.ProofKit
import Derived.OpenShut
import Derived.ShutString
import Derived.ChangeOld
import Derived.Below
import Derived.Test.YtkpbhdhkdonghaaGreatT07
set_option linter.all false
namespace Go.Proofs.YtkpbhdhkdonghaaGreat
open Go Go.RowKit Go.ChangeShapes Go.WideShapes Go.ChangeAt
theorem Frt.own : ownKnob Tryz.prog.godebug = none := by kernel_rfl
theorem Frt.laidOut : laidOutB Tryz.prog = true := by kernel_rfl
theorem byte_of {n : Int} (h : (Lit.int .u8 n).wf = true) : 0 ≤ n ∧ n < 256 := by
  simp [Lit.wf, IntKind.min, IntKind.max, IntKind.signed, IntKind.bits] at h
  omega
set_option maxRecDepth 100000 in
theorem open_sl22 {H : Type} {enc : TypeId × Value → H} {W : World} {base : Nat} {sp : Nat → Bool} {held : Bool} {v : Value} {d : DataW H} {p : List MemPlace} {r : Reach} {b0 : Nat} (hok : Value.okWide Tryz.prog W r b0 22 v) (hd : DataW.Trod enc Tryz.prog W base sp held 22 v d p) :
    ∃ b, In .u8 W v b ∧ Bytes b ∧ b.length ≤ maxLen := by
  obtain ⟨ad, len, cap, rfl⟩ := okWide_slice Tryz.underlying22 hok
  obtain ⟨fuel, hf⟩ := hd
  rcases open_ints Tryz.underlying22 Tryz.underlying5 (by kernel_rfl) hf with ⟨hcs, _⟩ | ⟨x, l, c, zs, hcs, _, hl, hm, hz, _, hcell, hwz⟩
  · simp [Value.cells] at hcs
    obtain ⟨rfl, rfl, rfl⟩ := hcs
    exact ⟨[], ⟨none, 0, rfl, fun i hi => absurd hi (by simp)⟩, fun x hx => absurd hx (by simp), by simp⟩
  · simp [Value.cells] at hcs
    obtain ⟨rfl, rfl, rfl⟩ := hcs
    have hlz : len ≤ zs.length := by rw [hz]; split <;> omega
    have ht : (zs.take len).length = len := by rw [List.length_take]; omega
    refine ⟨zs.take len, ⟨some x, cap, by rw [ht], fun i hi => ⟨x, rfl, ?_⟩⟩, fun y hy => byte_of (hwz y (List.mem_of_mem_take hy)), by omega⟩
    rw [ht] at hi
    rw [hcell i (by omega)]
    simp [gi, List.getD_eq_getElem?_getD, hi]
end Go.Proofs.YtkpbhdhkdonghaaGreat
