/-
  The walks of mtf.Take, mtf.New and of their references: contracts over any list of 256 bytes.
-/
import Derived.Test.YtaccjnekonmkoaaProg
import Derived.Test.YtaccjnekonmkoaaPlain
import Derived.StillTailTactics
import Derived.WalkLawsBesides
namespace Go.Proofs.Ytaccjnekonmkoaa
open Go Go.RowKit

theorem agg23 : AggTy Try.prog 23 256 := AggTy.mk' Try.underlying23 rfl (by kernel_rfl)
theorem zero23 (w : World) : (zeroValue 23).run Try.prog w = .ok (.agg (B zeros)) w := by kernel_rfl
theorem aggB (l : List Int) (h : l.length = 256) : AggTy Try.prog 23 (B l).size := by rw [size_B, h]; exact agg23
theorem size_BB (l m : List Int) (h : l.length = 256) (k : m.length = 256) : (B l).size = (B m).size := by rw [size_B, size_B, h, k]
theorem sz5 : (Try.prog.info? 5).map (·.size) = some 1 := by kernel_rfl
theorem one5 : OneTy Try.prog 5 := ⟨fun w => by kernel_rfl, by kernel_rfl⟩
theorem one3 : OneTy Try.prog 3 := ⟨fun w => by kernel_rfl, by kernel_rfl⟩

set_option maxRecDepth 100000 in
set_option maxHeartbeats 400000 in
theorem take_out (l : List Int) (p : Int) (w : World) (hl : l.length = 256) (hp : p < 0 ∨ 256 ≤ p) : Calls Try.prog 23 #[.agg (B l), .int .i64 p] w fun e w' => (e = .returned (.tuple #[.agg (B l), .int .u8 0, .bool false])) ∧ Below w.heap.size w w' := by
  have Hl : Hid (l.length = 256) := hl
  clear hl
  rcases hp with hp | hp
  · go_enter Try.func23, Try.ntmps23
    have hm := Mem.nil w
    go_wp2_with (first
      | (refine wpList_box_m (by assumption) rfl rfl rfl ?_; intro w1 g1 hm1)
      | (refine wpList_alloc_m (by assumption) rfl rfl zero23 ?_; intro w2 g2 hm2)
      | (refine wpList_load_all rfl rfl rfl (Mem.get (by assumption) 1 rfl) (aggB l Hl.out) ?_)
      | (refine wpList_store_m 0 (by assumption) rfl rfl rfl rfl rfl (aggB l Hl.out) (size_BB _ _ Hl.out len_zeros) (B_one _) ?_; intro w3 hm3; simp only [List.set] at hm3))
    refine bodyPost_ret (results_agg3 rfl rfl (hm3.get 0 rfl) (aggB l Hl.out)) rfl ⟨rfl, hm3.below⟩
  · have hp2 : ¬ p < 0 := by omega
    go_enter Try.func23, Try.ntmps23
    have hm := Mem.nil w
    go_wp2_with (first
      | (refine wpList_box_m (by assumption) rfl rfl rfl ?_; intro w1 g1 hm1)
      | (refine wpList_alloc_m (by assumption) rfl rfl zero23 ?_; intro w2 g2 hm2)
      | (refine wpList_load_all rfl rfl rfl (Mem.get (by assumption) 1 rfl) (aggB l Hl.out) ?_)
      | (refine wpList_store_m 0 (by assumption) rfl rfl rfl rfl rfl (aggB l Hl.out) (size_BB _ _ Hl.out len_zeros) (B_one _) ?_; intro w3 hm3; simp only [List.set] at hm3))
    refine bodyPost_ret (results_agg3 rfl rfl (hm3.get 0 rfl) (aggB l Hl.out)) rfl ⟨rfl, hm3.below⟩

set_option maxRecDepth 100000 in
set_option maxHeartbeats 400000 in
theorem take_in (l : List Int) (k : Nat) (w : World) (hl : l.length = 256) (hk : k < 256) : Calls Try.prog 23 #[.agg (B l), .int .i64 k] w fun e w' => (e = .returned (.tuple #[.agg (B (front l k)), .int .u8 (gi l k), .bool true])) ∧ Below w.heap.size w w' := by
  have Hl : Hid (l.length = 256) := hl
  have hg := get_B l k (by omega)
  have e1 : IntKind.i64.wrap ((k : Int) + 1) = (k : Int) + 1 := IntWalk.i64_in _ (by omega)
  have Hz : Hid ((sh l k 0).length = 256) := (len_sh l k 0 (by omega) (by omega)).trans hl
  have He : Hid (front l k = (sh l k 0).set 0 (gi l k)) := (sh_end l k (by omega)).symm
  have Hm : Hid (l.take 1 ++ l.take k ++ l.drop (1 + (l.take k).length) = sh l k 0) := (sh_zero l k (by omega)).symm
  clear hl
  go_enter Try.func23, Try.ntmps23
  have hm := Mem.nil w
  go_wp2_with (first
      | (refine wpList_box_m (by assumption) rfl rfl rfl ?_; intro w1 g1 hm1)
      | (refine wpList_alloc_m (by assumption) rfl rfl zero23 ?_; intro w2 g2 hm2))
  refine wp_region_still_tail 4 rfl (by kernel_rfl) ?_
  simp only [List.take_succ_cons, List.take_zero, List.drop_succ_cons, List.drop_zero]
  have hm3 := hm2.drawn (w2.drawn + 1)
  generalize ({ w2 with drawn := w2.drawn + 1 } : World) = w3 at hm3 ⊢
  refine wpStill_load_all rfl rfl rfl (hm3.get 1 rfl) (aggB l Hl.out) ?_
  still_step
  still_step
  refine wpStill_loadcell rfl rfl rfl (hm3.get 1 rfl) one5 hg ?_
  refine wpStill_nil ?_
  go_wp2_with (refine wpList_store_m 0 hm3 rfl rfl rfl rfl rfl (aggB l Hl.out) (size_BB _ _ Hl.out len_zeros) (B_one _) ?_; intro w4 hm4; simp only [List.set] at hm4)
  refine wp_region_still_tail 5 rfl (by kernel_rfl) ?_
  simp only [List.take_succ_cons, List.take_zero, List.drop_succ_cons, List.drop_zero]
  have hm5 := hm4.drawn (w4.drawn + 1)
  generalize ({ w4 with drawn := w4.drawn + 1 } : World) = w5 at hm5 ⊢
  still_step
  still_step
  refine wpStill_run rfl (exec_slice_arr rfl Try.underlying23 sz5 rfl (off' := 1) (len := k) (cap := 255) 1 (k + 1) (.inr ⟨_, rfl, rfl⟩) (.inr ⟨_, rfl, by omega⟩) (by omega) (by omega) (by omega) rfl rfl rfl) ?_
  still_step
  refine wpStill_run rfl (exec_slice_arr rfl Try.underlying23 sz5 rfl (off' := 0) (len := k) (cap := 256) 0 k (.inl ⟨rfl, rfl⟩) (.inr ⟨_, rfl, rfl⟩) (by omega) (by omega) (by omega) rfl rfl rfl) ?_
  refine wpStill_nil ?_
  have c1 : (B (l.take k)).size = k := by rw [size_B, List.length_take, Hl.out]; omega
  have c2 : splice (B l) 1 (B (l.take k)) = B (sh l k 0) := (splice_B _ _ _).trans (by rw [Hm.out])
  have c3 : 1 + (B (l.take k)).size ≤ (B l).size := by rw [c1, size_B, Hl.out]; omega
  refine wpList_copy_m (vs := B (l.take k)) (cs := B l) (cs2 := B l) (off := 1) (os := 0) (g := g2) (gs := g1) (dLen := k) (dCap := 255) (sLen := k) (sCap := 256) (ns := B (sh l k 0)) 0 hm5 rfl rfl Try.underlying24 sz5 rfl rfl rfl (hm5.get 1 rfl) (by rw [c1]; exact (Nat.min_self k).symm) (by rw [extract_B, c1]; simp) c3 (B_one _) c2 ?_
  clear c1 c2 c3
  intro w6 hm6
  simp only [List.set] at hm6
  have c0 : 0 < (B (sh l k 0)).size := by rw [size_B, Hz.out]; omega
  go_wp2_with (first
      | (refine wpList_storecell_m 0 hm6 rfl rfl rfl rfl rfl one5 c0 rfl rfl (set_B (sh l k 0) 0 (gi l k)) ?_; intro w7 hm7; simp only [List.set] at hm7; rw [← He.out] at hm7)
      | (refine wpList_load_all rfl rfl rfl (hm7.get 0 rfl) (aggB _ (by rw [He.out, List.length_set]; exact Hz.out)) ?_)
      | (refine wpList_store_m 0 hm7 rfl rfl rfl rfl rfl (aggB _ (by rw [He.out, List.length_set]; exact Hz.out)) rfl (B_one _) ?_; intro w8 hm8; simp only [List.set] at hm8))
  refine bodyPost_ret (results_agg3 rfl rfl (hm8.get 0 rfl) (aggB _ (by rw [He.out, List.length_set]; exact Hz.out))) rfl ⟨rfl, hm8.below⟩

/-- **mtf.Take, at every list of 256 bytes and every place.** -/
theorem take_any (l : List Int) (p : Int) (w : World) (hl : l.length = 256) : Calls Try.prog 23 #[.agg (B l), .int .i64 p] w fun e w' => (e = .returned (.tuple #[.agg (B (takeL l p)), .int .u8 (takeC l p), .bool (takeB p)])) ∧ Below w.heap.size w w' := by
  by_cases h : 0 ≤ p ∧ p < 256
  · obtain ⟨k, rfl⟩ := Int.eq_ofNat_of_zero_le h.1
    simp only [takeL, takeC, takeB, h, and_self, if_true, decide_true, Int.toNat_natCast]
    exact take_in l k w hl (by omega)
  · simp only [takeL, takeC, takeB, h, if_false, decide_false]
    exact take_out l p w hl (by omega)

set_option maxRecDepth 100000 in
set_option maxHeartbeats 400000 in
/-- **mtf.New.** -/
theorem new_any (w : World) : Calls Try.prog 27 #[] w fun e w' => (e = .returned (.agg (B new))) ∧ Below w.heap.size w w' := by
  have Hs : ∀ k : Nat, Hid ((newUp k).length = 256) := len_newUp
  have Hr : Hid (newUp 256 = new) := rfl
  go_enter Try.func27, Try.ntmps27
  have hm := Mem.nil w
  go_wp2_with (first
      | (refine wpList_alloc_m (by assumption) rfl rfl zero23 ?_; intro w1 g1 hm1))
  rw [show zeros = newUp 0 by decide] at hm1
  go_loopw [2] (fun i wr => ∃ k : Nat, k ≤ 256 ∧ i = .int .i64 k ∧ Mem w wr [(g1, B (newUp k))]) (fun i _ => 256 - (intOf i).toNat)
  case atStart => exact ⟨0, by omega, rfl, hm1⟩
  case round =>
    obtain ⟨k, hk, rfl, hmr⟩ := hrel
    by_cases hlt : k < 256
    · have c0 : k < (B (newUp k)).size := by rw [size_B, (Hs k).out]; exact hlt
      go_wp2_with (refine wpList_storecell_m 0 hmr rfl rfl rfl rfl rfl one5 c0 rfl rfl (set_B (newUp k) k k) ?_; intro w7 hm7; simp only [List.set] at hm7)
      rw [newUp_step] at hm7
      go_roundw
      case rel => exact ⟨k + 1, by omega, by go_num, hm7⟩
      case measure => simp [intOf]; omega
    · obtain rfl : k = 256 := by omega
      go_wp2_with (first
       | (refine wpList_load_all rfl rfl rfl (hmr.get 0 rfl) (aggB _ (Hs 256).out) ?_)
       | (refine wpList_store_m 0 hmr rfl rfl rfl rfl rfl (aggB _ (Hs 256).out) rfl (B_one _) ?_; intro w8 hm8; simp only [List.set] at hm8))
      refine bodyPost_ret (results_agg1 rfl rfl (hm8.get 0 rfl) (aggB _ (Hs 256).out)) rfl ⟨rfl, hm8.below⟩

set_option maxRecDepth 100000 in
set_option maxHeartbeats 400000 in
/-- The reference's New. -/
theorem rnew_any (w : World) : Calls Try.prog 28 #[] w fun e w' => (e = .returned (.agg (B new))) ∧ Below w.heap.size w w' := by
  have Hs : ∀ k : Nat, Hid ((newUp k).length = 256) := len_newUp
  go_enter Try.func28, Try.ntmps28
  have hm := Mem.nil w
  go_wp2_with (first
      | (refine wpList_alloc_m hm rfl rfl zero23 ?_; intro w1 g1 hm1; clear hm)
      | (refine wpList_alloc_m hm1 rfl rfl zero23 ?_; intro w2 g2 hm2; clear hm1))
  rw [show zeros = newUp 0 by decide] at hm2
  go_loopw [2] (fun i wr => ∃ k : Nat, k ≤ 256 ∧ i = .int .i64 k ∧ Mem w wr [(g2, B (newUp k)), (g1, B (newUp 0))]) (fun i _ => 256 - (intOf i).toNat)
  case atStart => exact ⟨0, by omega, rfl, hm2⟩
  case round =>
    obtain ⟨k, hk, rfl, hmr⟩ := hrel
    by_cases hlt : k < 256
    · have c0 : k < (B (newUp k)).size := by rw [size_B, (Hs k).out]; exact hlt
      go_wp2_with (refine wpList_storecell_m 0 hmr rfl rfl rfl rfl rfl one5 c0 rfl rfl (set_B (newUp k) k k) ?_; intro w7 hm7; simp only [List.set] at hm7)
      rw [newUp_step] at hm7
      go_roundw
      case rel => exact ⟨k + 1, by omega, by go_num, hm7⟩
      case measure => simp [intOf]; omega
    · obtain rfl : k = 256 := by omega
      go_wp2_with (first
       | (refine wpList_load_all rfl rfl rfl (hmr.get 0 rfl) (aggB _ (Hs 256).out) ?_)
       | (refine wpList_store_m 1 hmr rfl rfl rfl rfl rfl (aggB _ (Hs 256).out) (size_BB _ _ (Hs 256).out (Hs 0).out) (B_one _) ?_; intro w8 hm8; simp only [List.set] at hm8))
      refine bodyPost_ret (results_agg1 rfl rfl (hm8.get 1 rfl) (aggB _ (Hs 256).out)) rfl ⟨rfl, hm8.below⟩

set_option maxRecDepth 100000 in
set_option maxHeartbeats 400000 in
theorem rtake_out (l : List Int) (p : Int) (w : World) (hl : l.length = 256) (hp : p < 0 ∨ 256 ≤ p) : Calls Try.prog 24 #[.agg (B l), .int .i64 p] w fun e w' => (e = .returned (.tuple #[.agg (B l), .int .u8 0, .bool false])) ∧ Below w.heap.size w w' := by
  have Hl : Hid (l.length = 256) := hl
  clear hl
  rcases hp with hp | hp
  · go_enter Try.func24, Try.ntmps24
    have hm := Mem.nil w
    go_wp2_with (first
      | (refine wpList_box_m (by assumption) rfl rfl rfl ?_; intro w1 g1 hm1)
      | (refine wpList_alloc_m (by assumption) rfl rfl zero23 ?_; intro w2 g2 hm2)
      | (refine wpList_load_all rfl rfl rfl (Mem.get (by assumption) 1 rfl) (aggB l Hl.out) ?_)
      | (refine wpList_store_m 0 (by assumption) rfl rfl rfl rfl rfl (aggB l Hl.out) (size_BB _ _ Hl.out len_zeros) (B_one _) ?_; intro w3 hm3; simp only [List.set] at hm3))
    refine bodyPost_ret (results_agg3 rfl rfl (hm3.get 0 rfl) (aggB l Hl.out)) rfl ⟨rfl, hm3.below⟩
  · have hp2 : ¬ p < 0 := by omega
    go_enter Try.func24, Try.ntmps24
    have hm := Mem.nil w
    go_wp2_with (first
      | (refine wpList_box_m (by assumption) rfl rfl rfl ?_; intro w1 g1 hm1)
      | (refine wpList_alloc_m (by assumption) rfl rfl zero23 ?_; intro w2 g2 hm2)
      | (refine wpList_load_all rfl rfl rfl (Mem.get (by assumption) 1 rfl) (aggB l Hl.out) ?_)
      | (refine wpList_store_m 0 (by assumption) rfl rfl rfl rfl rfl (aggB l Hl.out) (size_BB _ _ Hl.out len_zeros) (B_one _) ?_; intro w3 hm3; simp only [List.set] at hm3))
    refine bodyPost_ret (results_agg3 rfl rfl (hm3.get 0 rfl) (aggB l Hl.out)) rfl ⟨rfl, hm3.below⟩

set_option maxRecDepth 100000 in
set_option maxHeartbeats 400000 in
theorem rtake_in (l : List Int) (k : Nat) (w : World) (hl : l.length = 256) (hk : k < 256) : Calls Try.prog 24 #[.agg (B l), .int .i64 k] w fun e w' => (e = .returned (.tuple #[.agg (B (front l k)), .int .u8 (gi l k), .bool true])) ∧ Below w.heap.size w w' := by
  have Hl : Hid (l.length = 256) := hl
  have hg := get_B l k (by omega)
  have Hz : ∀ i, i ≤ k → Hid ((sh l k i).length = 256) := fun i hi => (len_sh l k i (by omega) hi).trans hl
  have He : Hid (front l k = (sh l k 0).set 0 (gi l k)) := (sh_end l k (by omega)).symm
  have Ht : Hid (sh l k k = l) := sh_top l k
  have Hg : ∀ i, i < k → Hid ((B (sh l k (i + 1)))[i]? = some (.int .u8 (gi l i))) := fun i hi => by
    have := get_B (sh l k (i + 1)) i (by rw [len_sh l k (i + 1) (by omega) (by omega)]; omega)
    rwa [gi_sh l k i (by omega) hi] at this
  have Hst : ∀ i, i < k → Hid ((sh l k (i + 1)).set (i + 1) (gi l i) = sh l k i) := fun i hi => sh_step l k i (by omega) hi
  clear hl
  go_enter Try.func24, Try.ntmps24
  have hm := Mem.nil w
  go_wp2_with (first
      | (refine wpList_box_m hm rfl rfl rfl ?_; intro w1 g1 hm1; clear hm)
      | (refine wpList_alloc_m hm1 rfl rfl zero23 ?_; intro w2 g2 hm2; clear hm1)
      | (refine wpList_loadcell rfl rfl rfl (hm2.get 1 rfl) one5 hg ?_))
  go_loopw [8] (fun v wr => ∃ i : Nat, i ≤ k ∧ v = .int .i64 i ∧ Mem w wr [(g2, B zeros), (g1, B (sh l k i))]) (fun v _ => (intOf v).toNat)
  case atStart => exact ⟨k, by omega, rfl, by rw [Ht.out]; exact hm2⟩
  case round =>
    obtain ⟨i, hi, rfl, hmr⟩ := hrel
    clear hg hm2
    cases i with
    | zero =>
      have hz : ¬ ((0 : Int) < ((0 : Nat) : Int)) := by omega
      have c0 : 0 < (B (sh l k 0)).size := by rw [size_B, (Hz 0 (by omega)).out]; omega
      go_wp2_with (first
        | (refine wpList_storecell_m 1 hmr rfl rfl rfl rfl rfl one5 c0 rfl rfl (set_B (sh l k 0) 0 (gi l k)) ?_; intro w7 hm7; simp only [List.set] at hm7; rw [← He.out] at hm7)
        | (refine wpList_load_all rfl rfl rfl (hm7.get 1 rfl) (aggB _ (by rw [He.out, List.length_set]; exact (Hz 0 (by omega)).out)) ?_)
        | (refine wpList_store_m 0 hm7 rfl rfl rfl rfl rfl (aggB _ (by rw [He.out, List.length_set]; exact (Hz 0 (by omega)).out)) (size_BB _ _ (by rw [He.out, List.length_set]; exact (Hz 0 (by omega)).out) len_zeros) (B_one _) ?_; intro w8 hm8; simp only [List.set] at hm8))
      refine bodyPost_ret (results_agg3 rfl rfl (hm8.get 0 rfl) (aggB _ (by rw [He.out, List.length_set]; exact (Hz 0 (by omega)).out))) rfl ⟨rfl, hm8.below⟩
    | succ j =>
      have hgj := (Hg j (by omega)).out
      have c0 : j + 1 < (B (sh l k (j + 1))).size := by rw [size_B, (Hz (j + 1) (by omega)).out]; omega
      go_wp2_with (first
        | (refine wpList_loadcell rfl rfl rfl (hmr.get 1 rfl) one5 hgj ?_)
        | (refine wpList_storecell_m 1 hmr rfl rfl rfl rfl rfl one5 c0 rfl rfl (set_B (sh l k (j + 1)) (j + 1) (gi l j)) ?_; intro w7 hm7; simp only [List.set] at hm7; rw [(Hst j (by omega)).out] at hm7))
      go_roundw
      case rel => exact ⟨j, by omega, rfl, hm7⟩
      case measure => simp [intOf]

/-- The reference's Take, at every list of 256 bytes and every place. -/
theorem rtake_any (l : List Int) (p : Int) (w : World) (hl : l.length = 256) : Calls Try.prog 24 #[.agg (B l), .int .i64 p] w fun e w' => (e = .returned (.tuple #[.agg (B (takeL l p)), .int .u8 (takeC l p), .bool (takeB p)])) ∧ Below w.heap.size w w' := by
  by_cases h : 0 ≤ p ∧ p < 256
  · obtain ⟨k, rfl⟩ := Int.eq_ofNat_of_zero_le h.1
    simp only [takeL, takeC, takeB, h, and_self, if_true, decide_true, Int.toNat_natCast]
    exact rtake_in l k w hl (by omega)
  · simp only [takeL, takeC, takeB, h, if_false, decide_false]
    exact rtake_out l p w hl (by omega)
end Go.Proofs.Ytaccjnekonmkoaa
