/-
  The walks of mtf.Valid (and its ones) and of the reference's Valid.
-/
import Derived.Test.YtaccjnekonmkoaaMtfB
import Derived.Test.YtaccjnekonmkoaaOrd
namespace Go.Proofs.Ytaccjnekonmkoaa
open Go Go.RowKit

theorem agg82 : AggTy Try.prog 82 256 := AggTy.mk' Try.underlying82 rfl (by kernel_rfl)
theorem zero82 (w : World) : (zeroValue 82).run Try.prog w = .ok (.agg (I zeros)) w := by kernel_rfl
theorem aggI (l : List Int) (h : l.length = 256) : AggTy Try.prog 82 (I l).size := by rw [size_I, h]; exact agg82
theorem size_II (l m : List Int) (h : l.length = 256) (k : m.length = 256) : (I l).size = (I m).size := by rw [size_I, size_I, h, k]
theorem info3 : ∃ i, Try.prog.info? 3 = some i := ⟨_, rfl⟩
theorem info5 : ∃ i, Try.prog.info? 5 = some i := ⟨_, rfl⟩

set_option maxRecDepth 100000 in
set_option maxHeartbeats 400000 in
theorem ones_any (w : World) : Calls Try.prog 67 #[] w fun e w' => (e = .returned (.agg (I ones))) ∧ Below w.heap.size w w' := by
  have Hs : ∀ k : Nat, Hid ((one k).length = 256) := len_one
  have Hr : Hid (one 256 = ones) := rfl
  go_enter Try.func67, Try.ntmps67
  have hm := Mem.nil w
  go_wp2_with (first
      | (refine wpList_alloc_m (by assumption) rfl rfl zero82 ?_; intro w1 g1 hm1))
  rw [show zeros = one 0 by decide] at hm1
  go_loopw [2] (fun i wr => ∃ k : Nat, k ≤ 256 ∧ i = .int .i64 k ∧ Mem w wr [(g1, I (one k))]) (fun i _ => 256 - (intOf i).toNat)
  case atStart => exact ⟨0, by omega, rfl, hm1⟩
  case round =>
    obtain ⟨k, hk, rfl, hmr⟩ := hrel
    by_cases hlt : k < 256
    · have c0 : k < (I (one k)).size := by rw [size_I, (Hs k).out]; exact hlt
      go_wp2_with (refine wpList_storecell_m 0 hmr rfl rfl rfl rfl rfl one3 c0 rfl rfl (set_I (one k) k 1) ?_; intro w7 hm7; simp only [List.set] at hm7)
      rw [one_step] at hm7
      go_roundw
      case rel => exact ⟨k + 1, by omega, by go_num, hm7⟩
      case measure => simp [intOf]; omega
    · obtain rfl : k = 256 := by omega
      go_wp2_with (first
       | (refine wpList_load_all rfl rfl rfl (hmr.get 0 rfl) (aggI _ (Hs 256).out) ?_)
       | (refine wpList_store_m 0 hmr rfl rfl rfl rfl rfl (aggI _ (Hs 256).out) rfl (I_one _) ?_; intro w8 hm8; simp only [List.set] at hm8))
      refine bodyPost_ret (results_agg1 rfl rfl (hm8.get 0 rfl) (aggI _ (Hs 256).out)) rfl ⟨rfl, hm8.below⟩

set_option maxRecDepth 100000 in
set_option maxHeartbeats 400000 in
/-- **mtf.Valid, at every list of 256 bytes.** -/
theorem valid_any (l : List Int) (w : World) (hl : l.length = 256) (hb : Bytes l) : Calls Try.prog 25 #[.agg (B l)] w fun e w' => (e = .returned (.bool (vld l))) ∧ Below w.heap.size w w' := by
  have Hl : Hid (l.length = 256) := hl
  have Hb : ∀ k, k < 256 → Hid (0 ≤ gi l k ∧ gi l k < 256) := fun k hk => by
    refine hb _ ?_
    simp only [gi, List.getD_eq_getElem?_getD, List.getElem?_eq_getElem (show k < l.length by omega), Option.getD_some]
    exact List.getElem_mem _
  have Hs : ∀ k : Nat, Hid ((seenUp l k).length = 256) := len_seenUp l
  have Hst : ∀ k, k < 256 → Hid ((seenUp l k).set (gi l k).toNat 1 = seenUp l (k + 1)) := fun k hk => seenUp_step l k (by omega) (Hb k hk).out.1
  have Hg : ∀ i, i < 256 → Hid ((B l)[i]? = some (.int .u8 (gi l i))) := fun i hi => get_B l i (by omega)
  have H0 : Hid (zeros = seenUp l 0) := by
    show zeros = seenUp l 0
    simp only [seenUp, List.take_zero, List.contains_nil, Bool.false_eq_true, if_false]
    decide
  clear hl hb
  have HB := Lib.hid Hb
  have HS := Lib.hid Hs
  have HST := Lib.hid Hst
  have HG := Lib.hid Hg
  clear Hb Hs Hst Hg
  go_enter Try.func25, Try.ntmps25
  have hm := Mem.nil w
  go_wp2_with (first
      | (refine wpList_box_m hm rfl rfl rfl ?_; intro w1 g1 hm1; clear hm)
      | (refine wpList_alloc_m hm1 rfl rfl zero82 ?_; intro w2 g2 hm2; clear hm1)
      | (refine wpList_load_all rfl rfl rfl (hm2.get 1 rfl) (aggB l Hl.out) ?_))
  rw [H0.out] at hm2
  go_loopw [7] (fun i wr => ∃ k : Nat, k ≤ 256 ∧ i = .int .i64 k ∧ Mem w wr [(g2, I (seenUp l k)), (g1, B l)]) (fun i _ => 256 - (intOf i).toNat)
  case atStart => exact ⟨0, by omega, rfl, hm2⟩
  case round =>
    obtain ⟨k, hk, rfl, hmr⟩ := hrel
    clear hm2
    by_cases hlt : k < 256
    · have hbd := (HB.out k hlt).out
      obtain ⟨c, hc⟩ := Int.eq_ofNat_of_zero_le hbd.1
      have hg := (HG.out k hlt).out
      rw [hc] at hg hbd
      have hst := (HST.out k hlt)
      rw [hc, Int.toNat_natCast] at hst
      have hc2 : c < 256 := by omega
      clear hbd hc
      have c0 : c < (I (seenUp l k)).size := by rw [size_I, (HS.out k).out]; exact hc2
      go_wp2_with (first
        | (refine wpList_run rfl (exec_index rfl rfl rfl Try.underlying23 one5 hlt hg) ?_)
        | (refine wpList_storecell_m 0 hmr rfl rfl rfl rfl rfl one3 c0 rfl rfl (set_I (seenUp l k) c 1) ?_; intro w7 hm7; simp only [List.set] at hm7; rw [hst.out] at hm7))
      go_roundw
      case rel => exact ⟨k + 1, by omega, by go_num, hm7⟩
      case measure => simp [intOf]; omega
    · obtain rfl : k = 256 := by omega
      go_wp2_with fail
      refine wp_region_ord [(0, true), (1, false), (2, true), (3, true)] (fun W => RowIs W g2 (I (seenUp l 256))) rfl (by kernel_rfl) rfl (by kernel_rfl) (fun _ _ d _ _ h => by cases d <;> exact h) ((hmr.drawn (wr.drawn + 1)).get 0 rfl) ?_
      have hm8 := hmr.drawn (wr.drawn + 1)
      generalize ({ wr with drawn := wr.drawn + 1 } : World) = w8 at hm8 ⊢
      refine ord_read rfl rfl (fun W hW => exec_load_all rfl rfl hW (aggI _ (HS.out 256).out)) ?_
      refine ord_do rfl rfl (fun K hK => ?_)
      go_simp
      refine (ones_any _).mono ?_
      rintro e w9 ⟨rfl, hb9⟩
      have hm9 := hm8.call hb9
      refine hK _ _ ⟨_, fun _ h => h, hm9.get 0 rfl, ?_⟩
      clear hK K
      obtain ⟨i3, hi3⟩ := info3
      refine ord_read rfl rfl (fun W hW => exec_eql_ints (k := .i64) (l := seenUp l 256) (m := ones) rfl rfl rfl (by kernel_rfl) Try.underlying82 Try.underlying3 hi3 (by kernel_rfl) (HS.out 256).out (len_one 256)) ?_
      refine ord_read rfl rfl (fun W hW => by go_simp; rfl) ?_
      refine ord_nil ?_
      go_wp2
      go_ret
      exact ⟨rfl, hm9.below⟩

theorem nodup_of (l : List Int) (h : ∀ a b, a < b → b < l.length → gi l a ≠ gi l b) : l.Nodup := by
  refine List.pairwise_iff_getElem.2 fun i j hi hj hij => ?_
  have := h i j hij hj
  simpa [gi, List.getD_eq_getElem?_getD, List.getElem?_eq_getElem hi, List.getElem?_eq_getElem hj] using this
theorem not_nodup_of (l : List Int) (a b : Nat) (hab : a < b) (hb : b < l.length) (e : gi l a = gi l b) : ¬ l.Nodup := by
  intro h
  have := List.pairwise_iff_getElem.1 h a b (by omega) hb hab
  simp [gi, List.getD_eq_getElem?_getD, List.getElem?_eq_getElem hb, List.getElem?_eq_getElem (show a < l.length by omega)] at e
  exact this e

set_option maxRecDepth 100000 in
set_option maxHeartbeats 1000000 in
/-- The reference's Valid, at every list of 256 bytes. -/
theorem rvalid_any (l : List Int) (w : World) (hl : l.length = 256) : Calls Try.prog 26 #[.agg (B l)] w fun e w' => (e = .returned (.bool (dis l))) ∧ Below w.heap.size w w' := by
  have HG : Hid (∀ i, i < 256 → Hid ((B l)[i]? = some (.int .u8 (gi l i)))) := fun i hi => get_B l i (by omega)
  have HY : Hid ((∀ a b, a < b → b < 256 → gi l a ≠ gi l b) → Hid (dis l = true)) := fun h => decide_eq_true (nodup_of l (fun a b h1 h2 => h a b h1 (by omega)))
  have HN : Hid (∀ a b, a < b → b < 256 → gi l a = gi l b → Hid (dis l = false)) := fun a b h1 h2 h3 => decide_eq_false (not_nodup_of l a b h1 (by omega) h3)
  clear hl
  go_enter Try.func26, Try.ntmps26
  have hm := Mem.nil w
  go_wp2_with (first
      | (refine wpList_box_m hm rfl rfl rfl ?_; intro w1 g1 hm1; clear hm))
  go_loopw [3] (fun v wr => ∃ i : Nat, i ≤ 256 ∧ v = .int .i64 i ∧ Hid (∀ a b, a < b → b < i → gi l a ≠ gi l b) ∧ Mem w wr [(g1, B l)]) (fun v _ => 256 - (intOf v).toNat)
  case atStart => exact ⟨0, by omega, rfl, fun a b _ hb => absurd hb (by omega), hm1⟩
  case round =>
    obtain ⟨i, hi, rfl, hno, hmr⟩ := hrel
    clear hm1
    by_cases hlt : i < 256
    · have b2 : (i : Int) < 256 := by omega
      go_wp2_with fail
      obtain ⟨wo, rfl⟩ : ∃ wo : World, wo = wr := ⟨_, rfl⟩
      go_loopw [4] (fun v wr => ∃ k : Nat, k ≤ i ∧ v = .int .i64 k ∧ Hid (∀ a, a < k → gi l a ≠ gi l i) ∧ Mem w wr [(g1, B l)]) (fun v _ => i - (intOf v).toNat)
      case atStart => exact ⟨0, by omega, rfl, fun a ha => absurd ha (by omega), hmr⟩
      case round =>
        obtain ⟨k, hk, rfl, hnk, hmk⟩ := hrel
        clear hmr
        by_cases hki : k < i
        · have hgi := (HG.out i hlt).out
          have hgk := (HG.out k (by omega)).out
          have b1 : (k : Int) < 256 := by omega
          go_wp2_with fail
          refine wp_region_ord [(0, true), (1, true), (2, true), (3, true), (4, true), (5, true), (6, true)] (fun W => RowIs W g1 (B l)) rfl (by kernel_rfl) rfl (by kernel_rfl) (fun _ _ d _ _ h => by cases d <;> exact h) ((hmk.drawn (wr.drawn + 1)).get 0 rfl) ?_
          have hm8 := hmk.drawn (wr.drawn + 1)
          generalize ({ wr with drawn := wr.drawn + 1 } : World) = w8 at hm8 ⊢
          refine ord_read rfl rfl (fun W hW => by go_simp; rfl) ?_
          refine ord_read rfl rfl (fun W hW => by go_simp; rfl) ?_
          refine ord_read rfl rfl (fun W hW => exec_loadcell' rfl rfl hW one5 hgk) ?_
          refine ord_read rfl rfl (fun W hW => by go_simp; rfl) ?_
          refine ord_read rfl rfl (fun W hW => by go_simp; rfl) ?_
          refine ord_read rfl rfl (fun W hW => exec_loadcell' rfl rfl hW one5 hgi) ?_
          refine ord_read rfl rfl (fun W hW => by go_simp; rfl) ?_
          refine ord_nil ?_
          go_simp
          by_cases hc : gi l k = gi l i
          · have e1 : (gi l k == gi l i) = true := by simpa using hc
            have hd := HN.out k i hki hlt hc
            clear hc
            go_wp2
            go_ret
            exact ⟨by rw [hd.out]; rfl, hm8.below⟩
          · have e1 : (gi l k == gi l i) = false := by simpa using hc
            go_wp2
            go_roundw
            case rel => exact ⟨k + 1, by omega, by go_num, fun a ha => by
              by_cases hak : a = k
              · subst hak; exact hc
              · exact hnk.out a (by omega), hm8⟩
            case measure => simp [intOf]; omega
        · obtain rfl : k = i := by omega
          go_wp2
          go_roundw
          case rel => exact ⟨k + 1, by omega, by go_num, fun a b hab hb => by
            by_cases hbk : b = k
            · subst hbk; exact hnk.out a hab
            · exact hno.out a b hab (by omega), hmk⟩
          case measure => simp [intOf]; omega
    · obtain rfl : i = 256 := by omega
      have hd := HY.out hno.out
      go_wp2
      go_ret
      exact ⟨by rw [hd.out]; rfl, hmr.below⟩
end Go.Proofs.Ytaccjnekonmkoaa
