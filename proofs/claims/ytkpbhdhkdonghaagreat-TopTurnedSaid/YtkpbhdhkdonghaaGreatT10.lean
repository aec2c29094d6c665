/-
  Part 10 of the proof.
-/
import Derived.RangeFuncNested
import Derived.RangeFuncBound
import Derived.RangeFuncCalls
import Derived.RangeFuncLeaves
import Derived.RangeFuncBox
import Derived.WalkKit
import Derived.Shelf.Abstract
import Derived.OwnWalkIn
import Derived.TacticsInMore
import Derived.LoopNIn
import Derived.LoopIn
import Derived.Maps.AppendAt
import Derived.Lib.Hide
import Derived.Test.YtkpbhdhkdonghaaGreatT07
import Derived.Test.YtkpbhdhkdonghaaGreatT08
set_option linter.all false
namespace Go.Proofs.YtkpbhdhkdonghaaGreat
open Go Go.RowKit Go.Shelf
attribute [local go_sem] Oper.semAt_some
def dgF : Nat → Nat → List Int
  | 0, _ => []
  | k + 1, n => if n = 0 then [] else ((n - 1 : Nat) : Int) % 2 :: dgF k ((n - 1) / 2)
def dg (n : Nat) : List Int := dgF n n
theorem dgF_stop (k : Nat) : dgF k 0 = [] := by cases k <;> simp [dgF]
theorem dgF_fuel : ∀ (k n : Nat), n ≤ k → ∀ j, n ≤ j → dgF k n = dgF j n
  | 0, n, hk, j, _ => by
    obtain rfl : n = 0 := by omega
    rw [dgF_stop, dgF_stop]
  | k + 1, n, hk, j, hj => by
    by_cases h0 : n = 0
    · subst h0; rw [dgF_stop, dgF_stop]
    · obtain ⟨j, rfl⟩ : ∃ i, j = i + 1 := ⟨j - 1, by omega⟩
      rw [dgF, dgF, if_neg h0, if_neg h0, dgF_fuel k ((n - 1) / 2) (by omega) j (by omega)]
theorem dg_zero : dg 0 = [] := rfl
theorem dg_step (n : Nat) (h : 0 < n) : dg n = ((n - 1 : Nat) : Int) % 2 :: dg ((n - 1) / 2) := by
  obtain ⟨k, rfl⟩ : ∃ k, n = k + 1 := ⟨n - 1, by omega⟩
  rw [dg, dgF, if_neg (by omega), dg, dgF_fuel k ((k + 1 - 1) / 2) (by omega) _ (Nat.le_refl _)]
theorem and1_i64 (q : Nat) (hq : q < 2 ^ 32) : bits .and .i64 (q : Int) 1 = ((q % 2 : Nat) : Int) := by
  have h1 : (BitVec.ofInt 64 (q : Int)).toNat = q := by
    rw [BitVec.ofInt_natCast, BitVec.toNat_ofNat]; exact Nat.mod_eq_of_lt (by omega)
  have h2 : (BitVec.ofInt 64 (1 : Int)).toNat = 1 := rfl
  show IntKind.i64.wrap ((BitVec.ofInt 64 (q : Int) &&& BitVec.ofInt 64 (1 : Int)).toNat : Int) = _
  rw [BitVec.toNat_and, h1, h2, Nat.and_one_is_mod, IntWalk.i64_in _ (by omega)]
end Go.Proofs.YtkpbhdhkdonghaaGreat

namespace Go.Proofs.YtkpbhdhkdonghaaGreat
open Go Go.RowKit
def addOk (n k d : Int) : Prop := 0 ≤ n ∧ n ≤ 2147483647 ∧ 0 ≤ k ∧ k ≤ 30 ∧ (d = 0 ∨ d = 1)
instance (n k d : Int) : Decidable (addOk n k d) := by unfold addOk; infer_instance
end Go.Proofs.YtkpbhdhkdonghaaGreat

namespace Go.Proofs.YtkpbhdhkdonghaaGreat
open Go Go.RowKit
theorem ord_readl {P : Program} {ops : Array Oper} {Q : Exit → Act → World → Prop} {i : Nat} {r : List (Nat × Bool)} {S : World → Prop} {a : Act} {w : World} {o : Oper} {v : Value} (ho : ops.toList[i]? = some o) (hw : Region.wanted o (yielded ops a.tmps) = true)
    (hrun : ∀ W, S W → (execOp a.eval o).run P W = .ok (.value v) W) (h : wpOrd P ops Q r S (a.put o.dst v) w) : wpOrd P ops Q ((i, true) :: r) S a w :=
  ord_read (by rw [← Array.getElem?_toList]; exact ho) hw hrun h
end Go.Proofs.YtkpbhdhkdonghaaGreat

namespace Go.Proofs.YtkpbhdhkdonghaaGreat
open Go Go.RowKit Go.Shelf
attribute [local go_sem] Oper.semAt_some
theorem Own.grown {w0 w w' : World} {rs : List (Nat × Array Value)} {ss : List Sl} (h : Own w0 w rs ss) {row : Option Nat} (hg : w.grownBy w' row) (hr : ∀ r, row = some r → w0.heap.size ≤ r ∧ ∃ o : Obj, w.heap[r]? = some o ∧ o.isCells = false ∧ ∀ es c, o ≠ .map es c) : Own w0 w' rs ss := by
  refine ⟨h.mem.grown hg (fun k e => (hr k e).1) (fun k e hk => ?_), fun s hs => ?_, h.apart⟩
  · obtain ⟨p, hp, rfl⟩ := List.mem_map.1 hk
    obtain ⟨t, ht⟩ := h.mem.rows p hp
    obtain ⟨_, o, ho, hc, _⟩ := hr _ e
    rw [ht] at ho
    cases ho
    cases hc
  · have hS := h.sl s hs
    refine ⟨fun hq => (hS.sl hq).kept hg ?_, fun hq => ?_⟩
    · cases hk : s.1.ownBlock with
      | none => exact .inl rfl
      | some g =>
        refine .inr fun e' => ?_
        obtain ⟨cs, t, f, hgb⟩ := hS.cells g hk
        obtain ⟨_, o, ho, hc, _⟩ := hr g e'.symm
        rw [hgb] at ho
        cases ho
        cases hc
    · obtain ⟨h1, h2, h3⟩ := hS.mp hq
      refine ⟨h1, h2.block (hg.block _ h2.lt fun e' => ?_), h3⟩
      obtain ⟨_, o, ho, _, hm⟩ := hr _ e'.symm
      obtain ⟨es, c, hgb, _⟩ := h2
      rw [hgb] at ho
      cases ho
      exact hm _ _ rfl
end Go.Proofs.YtkpbhdhkdonghaaGreat
