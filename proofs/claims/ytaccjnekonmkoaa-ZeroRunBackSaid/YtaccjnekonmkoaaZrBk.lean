/-
  The walk of winepresslaw14.ZeroRunBack.
-/
import Derived.Test.YtaccjnekonmkoaaZrBb
import Derived.Test.YtaccjnekonmkoaaZrBc
namespace Go.Proofs.Ytaccjnekonmkoaa
open Go Go.RowKit

theorem back14 (v : Value) (l : List Int) (w : World) (sv : Src w v (vs .i64 l)) : Calls Try.prog 9 #[v] w fun e w' => e = .returned (.bool true) ∧ Below w.heap.size w w' := by
  by_cases h : (600 : Int) < l.length
  · exact back_w1 v l w (srcIn sv) h
  by_cases hp : Pl l
  · obtain ⟨b1, b2, b3⟩ := back_law hp (by omega)
    have hS : (enc l 0).length ≤ l.length := by have := len_enc l 0; omega
    have hN : nulls l l.length = 0 → (enc l 0).length = l.length := fun h => len_enc_eq l (nulls_none h)
    by_cases h0 : l.length = 0
    · exact back_nil v l (enc l 0) w sv h b1 ((mayUp_all l).2 hp) b2 hS hN h0
    · exact back_one v l (enc l 0) w sv h b1 ((mayUp_all l).2 hp) b2 hS hN h0 (b3 (fun e => h0 (by rw [e]; rfl)))
  · refine back_bad v l w sv h (fgo_bad l 0 [] hp) ?_
    show mayUp l l.length = false
    cases hm : mayUp l l.length with
    | false => rfl
    | true => exact absurd ((mayUp_all l).1 hm) hp
end Go.Proofs.Ytaccjnekonmkoaa
