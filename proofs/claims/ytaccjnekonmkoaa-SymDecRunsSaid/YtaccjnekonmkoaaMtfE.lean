/-
  The walks of the references' Forth and Back.
-/
import Derived.Test.YtaccjnekonmkoaaMtfD
import Derived.Test.YtaccjnekonmkoaaOrdOwn
namespace Go.Proofs.Ytaccjnekonmkoaa
open Go Go.RowKit

set_option maxRecDepth 100000 in
set_option maxHeartbeats 2000000 in
/-- The reference's Forth, at every text. -/
theorem rforth_any (v : Value) (b : List Int) (w : World) (hv : In .u8 w v b) (hb : Bytes b) (hlen : b.length ≤ 100000) :
    Calls Try.prog 30 #[v] w fun e w' => (∃ r, e = .returned r ∧ w'.ownsRow w.heap.size 5 1 r b.length (vs .u8 (forth b))) ∧ Below w.heap.size w w' := by
  obtain ⟨ad, cp, rfl, hc⟩ := hv
  obtain ⟨i5, hE⟩ := el24
  have HC := Lib.hid hc
  have HE := Lib.hid hE
  have HB := Lib.hid hb
  clear hc hE hb
  go_enter Try.func30, Try.ntmps30
  have hm := (Own.nil w).addNil 5
  go_wp2_with (first
      | (go_at_call 28; refine (rnew_any _).mono ?_; rintro e w1 ⟨rfl, hb1⟩; have hm1 := hm.call hb1; clear hm)
      | (refine wpList_alloc_o hm1 rfl rfl zero23 ?_; intro w2 g2 hm2; clear hm1)
      | (refine wpList_store_o 0 hm2 rfl rfl rfl rfl rfl (aggB _ len_new) (size_BB _ _ len_new len_zeros) (B_one _) ?_; intro w3 hm3; simp only [List.set] at hm3; clear hm2))
  go_loopw [3, 5] (fun r i wr => ∃ k : Nat, k ≤ b.length ∧ i = .int .i64 k ∧ Own w wr [(g2, B (lst new (b.take k)))] [(r, 5, vs .u8 (plc new (b.take k)))]) (fun _ i _ => b.length - (intOf i).toNat)
  case atStart => exact ⟨0, by omega, rfl, hm3⟩
  case round =>
    obtain ⟨k, hk, rfl, hmr⟩ := hrel
    clear hm3
    by_cases hlt : k < b.length
    · obtain ⟨A, rfl, hA0⟩ := HC.out k hlt
      have hV : Vl (lst new (b.take k)) := vl_lst _ _ vl_new
      have hbk := HB.out.gi k hlt
      have hp := pos_range hV hbk.1 hbk.2
      have HP : Hid ((putL (lst new (b.take k)) (gi b k)).length = 256) := (hV.putL _).len
      have HW : Hid (IntKind.u8.wrap (pos (lst new (b.take k)) (gi b k)) = pos (lst new (b.take k)) (gi b k)) := IntWalk.u8_in _ (by omega)
      have H1 : Hid (putL (lst new (b.take k)) (gi b k) = lst new (b.take (k + 1))) := by show putL _ _ = _; rw [take_snoc_gi b k hlt, lst_snoc]
      have H2 : Hid (vs .u8 (plc new (b.take k)) ++ [.int .u8 (pos (lst new (b.take k)) (gi b k))] = vs .u8 (plc new (b.take (k + 1)))) := by show _ ++ _ = _; rw [take_snoc_gi b k hlt, plc_snoc, vs_append]; rfl
      have H3 : Hid ((vs .u8 (plc new (b.take k))).length = k) := by show _ = _; rw [length_vs, len_plc, List.length_take]; omega
      have HA : ∀ W, Below w.heap.size w W → Hid (W.cell? (A.add k) = some (.int .u8 (gi b k))) := fun W hW => (hW.cell (block_lt_of_cell hA0)).trans hA0
      have HV := Lib.hid hV
      have HBK := Lib.hid hbk
      have HA' := Lib.hid HA
      clear hV hbk hA0 HA
      go_wp2_with fail
      refine wp_region_ordB [(0, true), (1, true), (2, true), (3, true), (4, true)] 5 [(6, true), (7, true), (8, true), (9, false), (10, false), (11, true)] 9 [(5, false), (6, true), (7, true), (8, true), (10, false), (11, true)]
        (fun W => Below w.heap.size w W ∧ RowIs W g2 (B (lst new (b.take k)))) rfl (by kernel_rfl) rfl rfl (by kernel_rfl) (fun _ _ d _ _ h => by cases d <;> exact h) ⟨(hmr.drawn (wr.drawn + 1)).below, (hmr.drawn (wr.drawn + 1)).row 0 rfl⟩ ?_
      have hm8 := hmr.drawn (wr.drawn + 1)
      generalize ({ wr with drawn := wr.drawn + 1 } : World) = w8 at hm8 ⊢
      refine ordB_read rfl rfl (fun W hW => exec_load_all rfl rfl hW.2 (aggB _ HV.out.len)) ?_
      refine ordB_read rfl rfl (fun W hW => by go_simp; rfl) ?_
      refine ordB_read rfl rfl (fun W hW => by go_simp; rfl) ?_
      refine ordB_read rfl rfl (fun W hW => exec_indexAddr_sl rfl HE.out rfl rfl rfl hlt) ?_
      refine ordB_read rfl rfl (fun W hW => exec_loadaddr rfl rfl one5 (HA'.out W hW.1).out) ?_
      refine ordB_split ?_ ?_
      case' refine_1 =>
          refine ord_do rfl rfl (fun K hK => ?_)
          go_simp
          refine (rput_any _ _ _ HV.out.len).mono ?_
          rintro e w9 ⟨rfl, hb9⟩
          have hm9 := hm8.call hb9
          refine hK _ _ ⟨_, fun _ h => h, ⟨hm9.below, hm9.row 0 rfl⟩, ?_⟩
          clear hK K
          refine ord_read rfl rfl (fun W hW => by go_simp; rfl) ?_
          refine ord_read rfl rfl (fun W hW => by go_simp; rfl) ?_
          refine ord_read rfl rfl (fun W hW => by go_simp; rfl) ?_
          refine ord_alloc_o hm9 rfl rfl rfl zero23 (fun w' g h => ⟨h.below, h.row 1 rfl⟩) (fun w10 g10 hm10 => ?_)
          refine ord_store_o 0 hm10 rfl rfl rfl rfl rfl rfl (aggB _ HP.out) (size_BB _ _ HP.out len_zeros) (B_one _) (fun w' h => ⟨h.below, h.row 1 rfl⟩) (fun w11 hm11 => ?_)
          simp only [List.set] at hm11
          refine ord_read rfl rfl (fun W hW => by go_simp; rfl) ?_
          refine ord_nil ?_
          go_simp
      case' refine_2 =>
          refine ord_alloc_o hm8 rfl rfl rfl zero23 (fun w' g h => ⟨h.below, h.row 1 rfl⟩) (fun w10 g10 hm10 => ?_)
          refine ord_do rfl rfl (fun K hK => ?_)
          go_simp
          refine (rput_any _ _ _ HV.out.len).mono ?_
          rintro e w9 ⟨rfl, hb9⟩
          have hm9 := hm10.call hb9
          refine hK _ _ ⟨_, fun _ h => h, ⟨hm9.below, hm9.row 1 rfl⟩, ?_⟩
          clear hK K
          refine ord_read rfl rfl (fun W hW => by go_simp; rfl) ?_
          refine ord_read rfl rfl (fun W hW => by go_simp; rfl) ?_
          refine ord_read rfl rfl (fun W hW => by go_simp; rfl) ?_
          refine ord_store_o 0 hm9 rfl rfl rfl rfl rfl rfl (aggB _ HP.out) (size_BB _ _ HP.out len_zeros) (B_one _) (fun w' h => ⟨h.below, h.row 1 rfl⟩) (fun w11 hm11 => ?_)
          simp only [List.set] at hm11
          refine ord_read rfl rfl (fun W hW => by go_simp; rfl) ?_
          refine ord_nil ?_
          go_simp
      all_goals
        go_wp2_with (first
          | (refine wpList_load_all rfl rfl rfl (hm11.row 0 rfl) (aggB _ HP.out) ?_)
          | (refine wpList_store_o 1 hm11 rfl rfl rfl rfl rfl (aggB _ HP.out) (size_BB _ _ HP.out HV.out.len) (B_one _) ?_; intro w12 hm12; simp only [List.set] at hm12)
          | (refine wpList_build1_o (v := .int .u8 (pos (lst new (b.take k)) (gi b k))) hm12 rfl rfl HE.out rfl rfl ?_; intro w13 g13 hm13)
          | (refine wpList_append_o 0 hm13 rfl rfl HE.out rfl rfl rfl (Src.one (hm13.row 0 rfl)) (one_list _ rfl) (sum_le _ _ k 1 H3.out rfl (by omega) 1 (by omega)) (by rw [H3.out]; show k + 1 ≤ _; omega) ?_; intro ad7 c7 w14 hm14; simp only [List.set] at hm14))
        rw [H1.out, H2.out] at hm14
        go_roundw
        case rel => exact ⟨k + 1, by omega, by go_num, hm14.dropRow.dropRow⟩
        case measure => simp [intOf]; omega
    · have hkb : k = b.length := by omega
      have HT : Hid (b.take k = b) := by rw [hkb]; exact List.take_length
      have HK := Lib.hid hkb
      clear hkb
      go_wp2_with fail
      go_ret
      have hg := hmr.get 0 rfl
      rw [HT.out] at hg
      have hl : (vs .u8 (plc new b)).length = b.length := by rw [length_vs, len_plc]
      refine ⟨⟨_, rfl, ?_⟩, hmr.below⟩
      rw [← hl]
      exact hg
set_option maxRecDepth 100000 in
set_option maxHeartbeats 2000000 in
/-- The reference's Back, at every list of places. -/
theorem rback_any (v : Value) (b : List Int) (w : World) (hv : In .u8 w v b) (hb : Bytes b) (hlen : b.length ≤ 100000) :
    Calls Try.prog 32 #[v] w fun e w' => (∃ r, e = .returned r ∧ w'.ownsRow w.heap.size 5 1 r b.length (vs .u8 (back b))) ∧ Below w.heap.size w w' := by
  obtain ⟨ad, cp, rfl, hc⟩ := hv
  obtain ⟨i5, hE⟩ := el24
  have HC := Lib.hid hc
  have HE := Lib.hid hE
  have HB := Lib.hid hb
  clear hc hE hb
  go_enter Try.func32, Try.ntmps32
  have hm := (Own.nil w).addNil 5
  go_wp2_with (first
      | (go_at_call 28; refine (rnew_any _).mono ?_; rintro e w1 ⟨rfl, hb1⟩; have hm1 := hm.call hb1; clear hm)
      | (refine wpList_alloc_o hm1 rfl rfl zero23 ?_; intro w2 g2 hm2; clear hm1)
      | (refine wpList_store_o 0 hm2 rfl rfl rfl rfl rfl (aggB _ len_new) (size_BB _ _ len_new len_zeros) (B_one _) ?_; intro w3 hm3; simp only [List.set] at hm3; clear hm2))
  go_loopw [3, 5] (fun r i wr => ∃ k : Nat, k ≤ b.length ∧ i = .int .i64 k ∧ Own w wr [(g2, B (lstB new (b.take k)))] [(r, 5, vs .u8 (bck new (b.take k)))]) (fun _ i _ => b.length - (intOf i).toNat)
  case atStart => exact ⟨0, by omega, rfl, hm3⟩
  case round =>
    obtain ⟨k, hk, rfl, hmr⟩ := hrel
    clear hm3
    by_cases hlt : k < b.length
    · obtain ⟨A, rfl, hA0⟩ := HC.out k hlt
      have hV : Vl (lstB new (b.take k)) := vl_lstB _ _ vl_new
      have hbk := HB.out.gi k hlt
      have HP : Hid ((takeL (lstB new (b.take k)) (gi b k)).length = 256) := (hV.takeL _).len
      have hw : IntKind.i64.wrap (gi b k) = gi b k := IntWalk.i64_in _ (by omega)
      have H1 : Hid (takeL (lstB new (b.take k)) (gi b k) = lstB new (b.take (k + 1))) := by show takeL _ _ = _; rw [take_snoc_gi b k hlt, lstB_snoc]
      have H2 : Hid (vs .u8 (bck new (b.take k)) ++ [.int .u8 (takeC (lstB new (b.take k)) (gi b k))] = vs .u8 (bck new (b.take (k + 1)))) := by show _ ++ _ = _; rw [take_snoc_gi b k hlt, bck_snoc, vs_append]; rfl
      have H3 : Hid ((vs .u8 (bck new (b.take k))).length = k) := by show _ = _; rw [length_vs, len_bck, List.length_take]; omega
      have HA : ∀ W, Below w.heap.size w W → Hid (W.cell? (A.add k) = some (.int .u8 (gi b k))) := fun W hW => (hW.cell (block_lt_of_cell hA0)).trans hA0
      have HV := Lib.hid hV
      have HBK := Lib.hid hbk
      have HA' := Lib.hid HA
      clear hV hbk hA0 HA
      go_wp2_with fail
      refine wp_region_ordB [(0, true), (1, true), (2, true), (3, true), (4, true), (5, true)] 6 [(7, true), (8, true), (9, true), (10, true), (11, false), (12, false), (13, true), (14, true)] 11 [(6, false), (7, true), (8, true), (9, true), (10, true), (12, false), (13, true), (14, true)]
        (fun W => Below w.heap.size w W ∧ RowIs W g2 (B (lstB new (b.take k)))) rfl (by kernel_rfl) rfl rfl (by kernel_rfl) (fun _ _ d _ _ h => by cases d <;> exact h) ⟨(hmr.drawn (wr.drawn + 1)).below, (hmr.drawn (wr.drawn + 1)).row 0 rfl⟩ ?_
      have hm8 := hmr.drawn (wr.drawn + 1)
      generalize ({ wr with drawn := wr.drawn + 1 } : World) = w8 at hm8 ⊢
      refine ordB_read rfl rfl (fun W hW => exec_load_all rfl rfl hW.2 (aggB _ HV.out.len)) ?_
      refine ordB_read rfl rfl (fun W hW => by go_simp; rfl) ?_
      refine ordB_read rfl rfl (fun W hW => by go_simp; rfl) ?_
      refine ordB_read rfl rfl (fun W hW => exec_indexAddr_sl rfl HE.out rfl rfl rfl hlt) ?_
      refine ordB_read rfl rfl (fun W hW => exec_loadaddr rfl rfl one5 (HA'.out W hW.1).out) ?_
      refine ordB_read rfl rfl (fun W hW => by go_simp; rfl) ?_
      refine ordB_split ?_ ?_
      case' refine_1 =>
          refine ord_do rfl rfl (fun K hK => ?_)
          go_simp
          refine (rtake_any _ _ _ HV.out.len).mono ?_
          rintro e w9 ⟨rfl, hb9⟩
          have hm9 := hm8.call hb9
          refine hK _ _ ⟨_, fun _ h => h, ⟨hm9.below, hm9.row 0 rfl⟩, ?_⟩
          clear hK K
          refine ord_read rfl rfl (fun W hW => by go_simp; rfl) ?_
          refine ord_read rfl rfl (fun W hW => by go_simp; rfl) ?_
          refine ord_read rfl rfl (fun W hW => by go_simp; rfl) ?_
          refine ord_read rfl rfl (fun W hW => by go_simp; rfl) ?_
          refine ord_alloc_o hm9 rfl rfl rfl zero23 (fun w' g h => ⟨h.below, h.row 1 rfl⟩) (fun w10 g10 hm10 => ?_)
          refine ord_store_o 0 hm10 rfl rfl rfl rfl rfl rfl (aggB _ HP.out) (size_BB _ _ HP.out len_zeros) (B_one _) (fun w' h => ⟨h.below, h.row 1 rfl⟩) (fun w11 hm11 => ?_)
          simp only [List.set] at hm11
          refine ord_read rfl rfl (fun W hW => by go_simp; rfl) ?_
          refine ord_read rfl rfl (fun W hW => by go_simp; rfl) ?_
          refine ord_nil ?_
          go_simp
      case' refine_2 =>
          refine ord_alloc_o hm8 rfl rfl rfl zero23 (fun w' g h => ⟨h.below, h.row 1 rfl⟩) (fun w10 g10 hm10 => ?_)
          refine ord_do rfl rfl (fun K hK => ?_)
          go_simp
          refine (rtake_any _ _ _ HV.out.len).mono ?_
          rintro e w9 ⟨rfl, hb9⟩
          have hm9 := hm10.call hb9
          refine hK _ _ ⟨_, fun _ h => h, ⟨hm9.below, hm9.row 1 rfl⟩, ?_⟩
          clear hK K
          refine ord_read rfl rfl (fun W hW => by go_simp; rfl) ?_
          refine ord_read rfl rfl (fun W hW => by go_simp; rfl) ?_
          refine ord_read rfl rfl (fun W hW => by go_simp; rfl) ?_
          refine ord_read rfl rfl (fun W hW => by go_simp; rfl) ?_
          refine ord_store_o 0 hm9 rfl rfl rfl rfl rfl rfl (aggB _ HP.out) (size_BB _ _ HP.out len_zeros) (B_one _) (fun w' h => ⟨h.below, h.row 1 rfl⟩) (fun w11 hm11 => ?_)
          simp only [List.set] at hm11
          refine ord_read rfl rfl (fun W hW => by go_simp; rfl) ?_
          refine ord_read rfl rfl (fun W hW => by go_simp; rfl) ?_
          refine ord_nil ?_
          go_simp
      all_goals
        go_wp2_with (first
          | (refine wpList_load_all rfl rfl rfl (hm11.row 0 rfl) (aggB _ HP.out) ?_)
          | (refine wpList_store_o 1 hm11 rfl rfl rfl rfl rfl (aggB _ HP.out) (size_BB _ _ HP.out HV.out.len) (B_one _) ?_; intro w12 hm12; simp only [List.set] at hm12)
          | (refine wpList_build1_o (v := .int .u8 (takeC (lstB new (b.take k)) (gi b k))) hm12 rfl rfl HE.out rfl rfl ?_; intro w13 g13 hm13)
          | (refine wpList_append_o 0 hm13 rfl rfl HE.out rfl rfl rfl (Src.one (hm13.row 0 rfl)) (one_list _ rfl) (sum_le _ _ k 1 H3.out rfl (by omega) 1 (by omega)) (by rw [H3.out]; show k + 1 ≤ _; omega) ?_; intro ad7 c7 w14 hm14; simp only [List.set] at hm14))
        rw [H1.out, H2.out] at hm14
        go_roundw
        case rel => exact ⟨k + 1, by omega, by go_num, hm14.dropRow.dropRow⟩
        case measure => simp [intOf]; omega
    · have hkb : k = b.length := by omega
      have HT : Hid (b.take k = b) := by rw [hkb]; exact List.take_length
      have HK := Lib.hid hkb
      clear hkb
      go_wp2_with fail
      go_ret
      have hg := hmr.get 0 rfl
      rw [HT.out] at hg
      have hl : (vs .u8 (bck new b)).length = b.length := by rw [length_vs, len_bck]
      refine ⟨⟨_, rfl, ?_⟩, hmr.below⟩
      rw [← hl]
      exact hg
end Go.Proofs.Ytaccjnekonmkoaa
