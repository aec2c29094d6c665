/-
  Part 34 of the proof.
-/
import Derived.Lib.AppendZerosOnto
import Derived.Below
import Derived.Test.YtkpbhdhkdonghaaGreatT02
import Derived.Test.YtkpbhdhkdonghaaGreatT04
import Derived.Test.YtkpbhdhkdonghaaGreatT07
import Derived.Test.YtkpbhdhkdonghaaGreatT09
import Derived.Test.YtkpbhdhkdonghaaGreatT10
set_option linter.all false
namespace Go.Proofs.YtkpbhdhkdonghaaGreat
open Go Go.RowKit
def val : Nat → List Int → Int
  | _, [] => 0
  | i, d :: l => (1 + d) * 2 ^ i + val (i + 1) l
end Go.Proofs.YtkpbhdhkdonghaaGreat

namespace Go.Proofs.YtkpbhdhkdonghaaGreat
open Go Go.RowKit
def enc : List Int → Nat → List Int
  | [], r => dg r
  | p :: l, r => if p = 0 then enc l (r + 1) else dg r ++ (p + 1) :: enc l 0
end Go.Proofs.YtkpbhdhkdonghaaGreat

namespace Go.Proofs.YtkpbhdhkdonghaaGreat
open Go Go.RowKit
set_option maxRecDepth 100000 in
theorem enew_any (w : World) : Calls Tryz.prog 192 #[] w fun e w' => (e = .returned (.agg (EV new 0))) ∧ Below w.heap.size w w' := by
  go_enter Tryz.func192, Tryz.ntmps192
  have hm := Own.nil w
  go_wp2_with (first
    | (refine wpList_alloc_o hm rfl rfl zero57 ?_; intro w2 g2 hm2; clear hm)
    | (go_at_call 169; have _t := hm2; refine (new_any _).mono ?_; rintro e w3 ⟨rfl, hb3⟩; have hm3 := hm2.call hb3; clear hm2)
    | (refine wpList_run rfl (exec_build57 rfl rfl len_new) ?_)
    | (refine wpList_store_o 0 hm3 rfl rfl rfl rfl rfl (aggE _ len_new) (by rw [size_EV _ len_new, size_EV _ len_zeros]) (EV_one _ _) ?_; intro w4 hm4; simp only [List.set] at hm4; clear hm3))
  refine bodyPost_ret (results_agg1 rfl rfl (hm4.row 0 rfl) (aggE _ len_new)) rfl ?_
  exact ⟨rfl, hm4.below⟩
end Go.Proofs.YtkpbhdhkdonghaaGreat
