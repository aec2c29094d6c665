/-
  Part 3 of the proof.
-/
import Derived.Test.YtkpbhdhkdonghaaGreatProg
import Derived.StillTailTactics
import Derived.WalkLawsBesides
import Derived.Test.YtkpbhdhkdonghaaGreatT01
set_option linter.all false
namespace Go.Proofs.YtkpbhdhkdonghaaGreat
open Go Go.RowKit
theorem agg23 : AggTy Tryz.prog 145 256 := AggTy.mk' Tryz.underlying145 rfl (by kernel_rfl)
theorem zero23 (w : World) : (zeroValue 145).run Tryz.prog w = .ok (.agg (B zeros)) w := by kernel_rfl
theorem aggB (l : List Int) (h : l.length = 256) : AggTy Tryz.prog 145 (B l).size := by rw [size_B, h]; exact agg23
theorem sz5 : (Tryz.prog.info? 5).map (·.size) = some 1 := by kernel_rfl
theorem one5 : OneTy Tryz.prog 5 := ⟨fun w => by kernel_rfl, by kernel_rfl⟩
theorem one3 : OneTy Tryz.prog 3 := ⟨fun w => by kernel_rfl, by kernel_rfl⟩
set_option maxRecDepth 100000 in
set_option maxHeartbeats 400000 in
theorem new_any (w : World) : Calls Tryz.prog 169 #[] w fun e w' => (e = .returned (.agg (B new))) ∧ Below w.heap.size w w' := by
  have Hs : ∀ k : Nat, Hid ((newUp k).length = 256) := len_newUp
  have Hr : Hid (newUp 256 = new) := rfl
  go_enter Tryz.func169, Tryz.ntmps169
  have hm := Mem.nil w
  go_wp2_with (first
      | (refine wpList_alloc_m (by assumption) rfl rfl zero23 ?_; intro w1 g1 hm1))
  rw [show zeros = newUp 0 by decide] at hm1
  go_loopw [2] (fun i wr => ∃ k : Nat, k ≤ 256 ∧ i = .int .i64 k ∧ Mem w wr [(g1, B (newUp k))]) (fun i _ => 256 - (intOf i).toNat)
  case atStart => exact ⟨0, by omega, rfl, hm1⟩
  case round =>
    obtain ⟨k, hk, rfl, hmr⟩ := hrel
    by_cases hlt : k < 256
    · have c0 : k < (B (newUp k)).size := by rw [size_B, (Hs k).out]; exact hlt
      go_wp2_with (refine wpList_storecell_m 0 hmr rfl rfl rfl rfl rfl one5 c0 rfl rfl (set_B (newUp k) k k) ?_; intro w7 hm7; simp only [List.set] at hm7)
      rw [newUp_step] at hm7
      go_roundw
      case rel => exact ⟨k + 1, by omega, by go_num, hm7⟩
      case measure => simp [intOf]; omega
    · obtain rfl : k = 256 := by omega
      go_wp2_with (first
       | (refine wpList_load_all rfl rfl rfl (hmr.get 0 rfl) (aggB _ (Hs 256).out) ?_)
       | (refine wpList_store_m 0 hmr rfl rfl rfl rfl rfl (aggB _ (Hs 256).out) rfl (B_one _) ?_; intro w8 hm8; simp only [List.set] at hm8))
      refine bodyPost_ret (results_agg1 rfl rfl (hm8.get 0 rfl) (aggB _ (Hs 256).out)) rfl ⟨rfl, hm8.below⟩
end Go.Proofs.YtkpbhdhkdonghaaGreat
