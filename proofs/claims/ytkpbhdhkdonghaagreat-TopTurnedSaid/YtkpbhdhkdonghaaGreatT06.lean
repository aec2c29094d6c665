/-
  Part 6 of the proof.
-/
import Derived.Test.YtkpbhdhkdonghaaGreatT04
import Derived.Test.YtkpbhdhkdonghaaGreatT05
set_option linter.all false
namespace Go.Proofs.YtkpbhdhkdonghaaGreat
open Go Go.RowKit
theorem agg82 : AggTy Tryz.prog 115 256 := AggTy.mk' Tryz.underlying115 rfl (by kernel_rfl)
theorem zero82 (w : World) : (zeroValue 115).run Tryz.prog w = .ok (.agg (I zeros)) w := by kernel_rfl
theorem aggI (l : List Int) (h : l.length = 256) : AggTy Tryz.prog 115 (I l).size := by rw [size_I, h]; exact agg82
theorem info3 : ∃ i, Tryz.prog.info? 3 = some i := Option.isSome_iff_exists.1 (by kernel_rfl)
theorem info5 : ∃ i, Tryz.prog.info? 5 = some i := Option.isSome_iff_exists.1 (by kernel_rfl)
set_option maxRecDepth 100000 in
set_option maxHeartbeats 400000 in
theorem ones_any (w : World) : Calls Tryz.prog 250 #[] w fun e w' => (e = .returned (.agg (I ones))) ∧ Below w.heap.size w w' := by
  have Hs : ∀ k : Nat, Hid ((one k).length = 256) := len_one
  have Hr : Hid (one 256 = ones) := rfl
  go_enter Tryz.func250, Tryz.ntmps250
  have hm := Mem.nil w
  go_wp2_with (first
      | (refine wpList_alloc_m (by assumption) rfl rfl zero82 ?_; intro w1 g1 hm1))
  rw [show zeros = one 0 by decide] at hm1
  go_loopw [2] (fun i wr => ∃ k : Nat, k ≤ 256 ∧ i = .int .i64 k ∧ Mem w wr [(g1, I (one k))]) (fun i _ => 256 - (intOf i).toNat)
  case atStart => exact ⟨0, by omega, rfl, hm1⟩
  case round =>
    obtain ⟨k, hk, rfl, hmr⟩ := hrel
    by_cases hlt : k < 256
    · have c0 : k < (I (one k)).size := by rw [size_I, (Hs k).out]; exact hlt
      go_wp2_with (refine wpList_storecell_m 0 hmr rfl rfl rfl rfl rfl one3 c0 rfl rfl (set_I (one k) k 1) ?_; intro w7 hm7; simp only [List.set] at hm7)
      rw [one_step] at hm7
      go_roundw
      case rel => exact ⟨k + 1, by omega, by go_num, hm7⟩
      case measure => simp [intOf]; omega
    · obtain rfl : k = 256 := by omega
      go_wp2_with (first
       | (refine wpList_load_all rfl rfl rfl (hmr.get 0 rfl) (aggI _ (Hs 256).out) ?_)
       | (refine wpList_store_m 0 hmr rfl rfl rfl rfl rfl (aggI _ (Hs 256).out) rfl (I_one _) ?_; intro w8 hm8; simp only [List.set] at hm8))
      refine bodyPost_ret (results_agg1 rfl rfl (hm8.get 0 rfl) (aggI _ (Hs 256).out)) rfl ⟨rfl, hm8.below⟩
set_option maxRecDepth 100000 in
set_option maxHeartbeats 400000 in
theorem valid_any (l : List Int) (w : World) (hl : l.length = 256) (hb : Bytes l) : Calls Tryz.prog 215 #[.agg (B l)] w fun e w' => (e = .returned (.bool (vld l))) ∧ Below w.heap.size w w' := by
  have Hl : Hid (l.length = 256) := hl
  have Hb : ∀ k, k < 256 → Hid (0 ≤ gi l k ∧ gi l k < 256) := fun k hk => by
    refine hb _ ?_
    simp only [gi, List.getD_eq_getElem?_getD, List.getElem?_eq_getElem (show k < l.length by omega), Option.getD_some]
    exact List.getElem_mem _
  have Hs : ∀ k : Nat, Hid ((seenUp l k).length = 256) := len_seenUp l
  have Hst : ∀ k, k < 256 → Hid ((seenUp l k).set (gi l k).toNat 1 = seenUp l (k + 1)) := fun k hk => seenUp_step l k (by omega) (Hb k hk).out.1
  have Hg : ∀ i, i < 256 → Hid ((B l)[i]? = some (.int .u8 (gi l i))) := fun i hi => get_B l i (by omega)
  have H0 : Hid (zeros = seenUp l 0) := by
    show zeros = seenUp l 0
    simp only [seenUp, List.take_zero, List.contains_nil, Bool.false_eq_true, if_false]
    decide
  clear hl hb
  have HB := Lib.hid Hb
  have HS := Lib.hid Hs
  have HST := Lib.hid Hst
  have HG := Lib.hid Hg
  clear Hb Hs Hst Hg
  go_enter Tryz.func215, Tryz.ntmps215
  have hm := Mem.nil w
  go_wp2_with (first
      | (refine wpList_box_m hm rfl rfl rfl ?_; intro w1 g1 hm1; clear hm)
      | (refine wpList_alloc_m hm1 rfl rfl zero82 ?_; intro w2 g2 hm2; clear hm1)
      | (refine wpList_load_all rfl rfl rfl (hm2.get 1 rfl) (aggB l Hl.out) ?_))
  rw [H0.out] at hm2
  go_loopw [7] (fun i wr => ∃ k : Nat, k ≤ 256 ∧ i = .int .i64 k ∧ Mem w wr [(g2, I (seenUp l k)), (g1, B l)]) (fun i _ => 256 - (intOf i).toNat)
  case atStart => exact ⟨0, by omega, rfl, hm2⟩
  case round =>
    obtain ⟨k, hk, rfl, hmr⟩ := hrel
    clear hm2
    by_cases hlt : k < 256
    · have hbd := (HB.out k hlt).out
      obtain ⟨c, hc⟩ := Int.eq_ofNat_of_zero_le hbd.1
      have hg := (HG.out k hlt).out
      rw [hc] at hg hbd
      have hst := (HST.out k hlt)
      rw [hc, Int.toNat_natCast] at hst
      have hc2 : c < 256 := by omega
      clear hbd hc
      have c0 : c < (I (seenUp l k)).size := by rw [size_I, (HS.out k).out]; exact hc2
      go_wp2_with (first
        | (refine wpList_run rfl (exec_index rfl rfl rfl Tryz.underlying145 one5 hlt hg) ?_)
        | (refine wpList_storecell_m 0 hmr rfl rfl rfl rfl rfl one3 c0 rfl rfl (set_I (seenUp l k) c 1) ?_; intro w7 hm7; simp only [List.set] at hm7; rw [hst.out] at hm7))
      go_roundw
      case rel => exact ⟨k + 1, by omega, by go_num, hm7⟩
      case measure => simp [intOf]; omega
    · obtain rfl : k = 256 := by omega
      go_wp2_with fail
      refine wp_region_ord [(0, true), (1, false), (2, true), (3, true)] (fun W => RowIs W g2 (I (seenUp l 256))) rfl (by kernel_rfl) rfl (by kernel_rfl) (fun _ _ d _ _ h => by cases d <;> exact h) ((hmr.drawn (wr.drawn + 1)).get 0 rfl) ?_
      have hm8 := hmr.drawn (wr.drawn + 1)
      generalize ({ wr with drawn := wr.drawn + 1 } : World) = w8 at hm8 ⊢
      refine ord_read rfl rfl (fun W hW => exec_load_all rfl rfl hW (aggI _ (HS.out 256).out)) ?_
      refine ord_do rfl rfl (fun K hK => ?_)
      go_simp
      refine (ones_any _).mono ?_
      rintro e w9 ⟨rfl, hb9⟩
      have hm9 := hm8.call hb9
      refine hK _ _ ⟨_, fun _ h => h, hm9.get 0 rfl, ?_⟩
      clear hK K
      obtain ⟨i3, hi3⟩ := info3
      refine ord_read rfl rfl (fun W hW => exec_eql_ints (k := .i64) (l := seenUp l 256) (m := ones) rfl rfl rfl (by kernel_rfl) Tryz.underlying115 Tryz.underlying3 hi3 (by kernel_rfl) (HS.out 256).out (len_one 256)) ?_
      refine ord_read rfl rfl (fun W hW => by go_simp; rfl) ?_
      refine ord_nil ?_
      go_wp2
      go_ret
      exact ⟨rfl, hm9.below⟩
end Go.Proofs.YtkpbhdhkdonghaaGreat
