/-
  The walks of mtf.Forth, mtf.Back and of their references.
-/
import Derived.Test.YtaccjnekonmkoaaPlainB
import Derived.Test.YtaccjnekonmkoaaMtfC
import Derived.Test.YtaccjnekonmkoaaOwn
namespace Go.Proofs.Ytaccjnekonmkoaa
open Go Go.RowKit

theorem el24 : ∃ i, ElTy Try.prog 24 5 i (.int .u8 0) 1 := ⟨_, Try.underlying24, rfl, rfl, rfl, rfl, rfl⟩
theorem el39 : ∃ i, ElTy Try.prog 39 3 i (.int .i64 0) 8 := ⟨_, Try.underlying39, rfl, rfl, rfl, rfl, rfl⟩

theorem one_list (v : Value) (h : v.oneCell' = true) : ∀ u ∈ [v], u.oneCell' = true := by
  intro u hu
  rw [List.mem_singleton.1 hu]
  exact h
theorem sum_le (a b c d : Nat) (h : a = c) (h2 : b = d) (h3 : c + d ≤ 10000000) (by_ : Nat) (h4 : by_ ≤ 8) : (a + b) * by_ ≤ 140737488355328 := by
  subst h h2
  have := Nat.mul_le_mul h3 h4
  omega

/-- What the callers know of a slice that came in, of numbers of kind k. -/
def In (k : IntKind) (w : World) (v : Value) (b : List Int) : Prop := ∃ ad c, v = .slice ad b.length c ∧ (∀ i, i < b.length → ∃ A, ad = some A ∧ w.cell? (A.add i) = some (.int k (gi b i)))
theorem In.below {k : IntKind} {w w' : World} {v : Value} {b : List Int} (h : In k w v b) (hb : Below w.heap.size w w') : In k w' v b := by
  obtain ⟨ad, c, rfl, hc⟩ := h
  refine ⟨ad, c, rfl, fun i hi => ?_⟩
  obtain ⟨A, rfl, hA⟩ := hc i hi
  exact ⟨A, rfl, (hb.cell (block_lt_of_cell hA)).trans hA⟩

set_option maxRecDepth 100000 in
set_option maxHeartbeats 1000000 in
/-- **mtf.Forth, at every text.** -/
theorem forth_any (v : Value) (b : List Int) (w : World) (hv : In .u8 w v b) (hb : Bytes b) (hlen : b.length ≤ 100000) :
    Calls Try.prog 29 #[v] w fun e w' => (∃ r, e = .returned r ∧ w'.ownsRow w.heap.size 5 1 r b.length (vs .u8 (forth b))) ∧ Below w.heap.size w w' := by
  obtain ⟨ad, cp, rfl, hc⟩ := hv
  obtain ⟨i5, hE⟩ := el24
  have HC := Lib.hid hc
  have HE := Lib.hid hE
  have HB := Lib.hid hb
  clear hc hE hb
  go_enter Try.func29, Try.ntmps29
  have hm := (Own.nil w).addNil 5
  go_wp2_with (first
      | (go_at_call 27; refine (new_any _).mono ?_; rintro e w1 ⟨rfl, hb1⟩; have hm1 := hm.call hb1; clear hm)
      | (refine wpList_alloc_o hm1 rfl rfl zero23 ?_; intro w2 g2 hm2; clear hm1)
      | (refine wpList_store_o 0 hm2 rfl rfl rfl rfl rfl (aggB _ len_new) (size_BB _ _ len_new len_zeros) (B_one _) ?_; intro w3 hm3; simp only [List.set] at hm3; clear hm2))
  go_loopw [2, 10] (fun r i wr => ∃ k : Nat, k ≤ b.length ∧ i = .int .i64 k ∧ Own w wr [(g2, B (lst new (b.take k)))] [(r, 5, vs .u8 (plc new (b.take k)))]) (fun _ i _ => b.length - (intOf i).toNat)
  case atStart => exact ⟨0, by omega, rfl, hm3⟩
  case round =>
    obtain ⟨k, hk, rfl, hmr⟩ := hrel
    clear hm3
    by_cases hlt : k < b.length
    · obtain ⟨A, rfl, hA0⟩ := HC.out k hlt
      have hA : wr.cell? (A.add k) = some (.int .u8 (gi b k)) := (hmr.below.cell (block_lt_of_cell hA0)).trans hA0
      have hV : Vl (lst new (b.take k)) := vl_lst _ _ vl_new
      have hbk := HB.out.gi k hlt
      have hp := pos_range hV hbk.1 hbk.2
      have HP : Hid ((putL (lst new (b.take k)) (gi b k)).length = 256) := (hV.putL _).len
      have HW : Hid (IntKind.u8.wrap (pos (lst new (b.take k)) (gi b k)) = pos (lst new (b.take k)) (gi b k)) := IntWalk.u8_in _ (by omega)
      have H1 : Hid (putL (lst new (b.take k)) (gi b k) = lst new (b.take (k + 1))) := by show putL _ _ = _; rw [take_snoc_gi b k hlt, lst_snoc]
      have H2 : Hid (vs .u8 (plc new (b.take k)) ++ [.int .u8 (pos (lst new (b.take k)) (gi b k))] = vs .u8 (plc new (b.take (k + 1)))) := by show _ ++ _ = _; rw [take_snoc_gi b k hlt, plc_snoc, vs_append]; rfl
      have H3 : Hid ((vs .u8 (plc new (b.take k))).length = k) := by show _ = _; rw [length_vs, len_plc, List.length_take]; omega
      have HV := Lib.hid hV
      have HBK := Lib.hid hbk
      clear hV hbk hA0
      go_wp2_with (first
        | (refine wpList_run rfl (exec_indexAddr_sl rfl HE.out rfl rfl rfl hlt) ?_)
        | (refine wpList_run rfl (exec_loadaddr rfl rfl one5 hA) ?_)
        | (refine wpList_load_all rfl rfl rfl (hmr.row 0 rfl) (aggB _ HV.out.len) ?_)
        | (go_at_call 21; refine (put_any _ _ _ HV.out.len HV.out.bytes HBK.out).mono ?_; rintro e w4 ⟨rfl, hb4⟩; have hm4 := hmr.call hb4)
        | (refine wpList_store_o 0 hm4 rfl rfl rfl rfl rfl (aggB _ HP.out) (size_BB _ _ HP.out HV.out.len) (B_one _) ?_; intro w5 hm5; simp only [List.set] at hm5)
        | (refine wpList_build1_o (v := .int .u8 (pos (lst new (b.take k)) (gi b k))) hm5 rfl rfl HE.out rfl rfl ?_; intro w6 g6 hm6)
        | (refine wpList_append_o 0 hm6 rfl rfl HE.out rfl rfl rfl (Src.one (hm6.row 0 rfl)) (one_list _ rfl) (sum_le _ _ k 1 H3.out rfl (by omega) 1 (by omega)) (by rw [H3.out]; show k + 1 ≤ _; omega) ?_; intro ad7 c7 w7 hm7; simp only [List.set] at hm7))
      rw [H1.out, H2.out] at hm7
      go_roundw
      case rel => exact ⟨k + 1, by omega, by go_num, hm7.dropRow⟩
      case measure => simp [intOf]; omega
    · have hkb : k = b.length := by omega
      have HT : Hid (b.take k = b) := by rw [hkb]; exact List.take_length
      have HK := Lib.hid hkb
      clear hkb
      go_wp2_with fail
      go_ret
      have hg := hmr.get 0 rfl
      rw [HT.out] at hg
      have hl : (vs .u8 (plc new b)).length = b.length := by rw [length_vs, len_plc]
      refine ⟨⟨_, rfl, ?_⟩, hmr.below⟩
      rw [← hl]
      exact hg

set_option maxRecDepth 100000 in
set_option maxHeartbeats 1000000 in
/-- **mtf.Back, at every list of places.** -/
theorem back_any (v : Value) (b : List Int) (w : World) (hv : In .u8 w v b) (hb : Bytes b) (hlen : b.length ≤ 100000) :
    Calls Try.prog 31 #[v] w fun e w' => (∃ r, e = .returned r ∧ w'.ownsRow w.heap.size 5 1 r b.length (vs .u8 (back b))) ∧ Below w.heap.size w w' := by
  obtain ⟨ad, cp, rfl, hc⟩ := hv
  obtain ⟨i5, hE⟩ := el24
  have HC := Lib.hid hc
  have HE := Lib.hid hE
  have HB := Lib.hid hb
  clear hc hE hb
  go_enter Try.func31, Try.ntmps31
  have hm := (Own.nil w).addNil 5
  go_wp2_with (first
      | (go_at_call 27; refine (new_any _).mono ?_; rintro e w1 ⟨rfl, hb1⟩; have hm1 := hm.call hb1; clear hm)
      | (refine wpList_alloc_o hm1 rfl rfl zero23 ?_; intro w2 g2 hm2; clear hm1)
      | (refine wpList_store_o 0 hm2 rfl rfl rfl rfl rfl (aggB _ len_new) (size_BB _ _ len_new len_zeros) (B_one _) ?_; intro w3 hm3; simp only [List.set] at hm3; clear hm2))
  go_loopw [2, 10] (fun r i wr => ∃ k : Nat, k ≤ b.length ∧ i = .int .i64 k ∧ Own w wr [(g2, B (lstB new (b.take k)))] [(r, 5, vs .u8 (bck new (b.take k)))]) (fun _ i _ => b.length - (intOf i).toNat)
  case atStart => exact ⟨0, by omega, rfl, hm3⟩
  case round =>
    obtain ⟨k, hk, rfl, hmr⟩ := hrel
    clear hm3
    by_cases hlt : k < b.length
    · obtain ⟨A, rfl, hA0⟩ := HC.out k hlt
      have hA : wr.cell? (A.add k) = some (.int .u8 (gi b k)) := (hmr.below.cell (block_lt_of_cell hA0)).trans hA0
      have hV : Vl (lstB new (b.take k)) := vl_lstB _ _ vl_new
      have hbk := HB.out.gi k hlt
      have HP : Hid ((takeL (lstB new (b.take k)) (gi b k)).length = 256) := (hV.takeL _).len
      have HW : IntKind.i64.wrap (gi b k) = gi b k := IntWalk.i64_in _ (by omega)
      have H1 : Hid (takeL (lstB new (b.take k)) (gi b k) = lstB new (b.take (k + 1))) := by show takeL _ _ = _; rw [take_snoc_gi b k hlt, lstB_snoc]
      have H2 : Hid (vs .u8 (bck new (b.take k)) ++ [.int .u8 (takeC (lstB new (b.take k)) (gi b k))] = vs .u8 (bck new (b.take (k + 1)))) := by show _ ++ _ = _; rw [take_snoc_gi b k hlt, bck_snoc, vs_append]; rfl
      have H3 : Hid ((vs .u8 (bck new (b.take k))).length = k) := by show _ = _; rw [length_vs, len_bck, List.length_take]; omega
      have HV := Lib.hid hV
      clear hV hA0
      go_wp2_with (first
        | (refine wpList_run rfl (exec_indexAddr_sl rfl HE.out rfl rfl rfl hlt) ?_)
        | (refine wpList_run rfl (exec_loadaddr rfl rfl one5 hA) ?_)
        | (refine wpList_load_all rfl rfl rfl (hmr.row 0 rfl) (aggB _ HV.out.len) ?_)
        | (go_at_call 23; refine (take_any _ _ _ HV.out.len).mono ?_; rintro e w4 ⟨rfl, hb4⟩; have hm4 := hmr.call hb4)
        | (refine wpList_store_o 0 hm4 rfl rfl rfl rfl rfl (aggB _ HP.out) (size_BB _ _ HP.out HV.out.len) (B_one _) ?_; intro w5 hm5; simp only [List.set] at hm5)
        | (refine wpList_build1_o (v := .int .u8 (takeC (lstB new (b.take k)) (gi b k))) hm5 rfl rfl HE.out rfl rfl ?_; intro w6 g6 hm6)
        | (refine wpList_append_o 0 hm6 rfl rfl HE.out rfl rfl rfl (Src.one (hm6.row 0 rfl)) (one_list _ rfl) (sum_le _ _ k 1 H3.out rfl (by omega) 1 (by omega)) (by rw [H3.out]; show k + 1 ≤ _; omega) ?_; intro ad7 c7 w7 hm7; simp only [List.set] at hm7))
      rw [H1.out, H2.out] at hm7
      go_roundw
      case rel => exact ⟨k + 1, by omega, by go_num, hm7.dropRow⟩
      case measure => simp [intOf]; omega
    · have hkb : k = b.length := by omega
      have HT : Hid (b.take k = b) := by rw [hkb]; exact List.take_length
      have HK := Lib.hid hkb
      clear hkb
      go_wp2_with fail
      go_ret
      have hg := hmr.get 0 rfl
      rw [HT.out] at hg
      have hl : (vs .u8 (bck new b)).length = b.length := by rw [length_vs, len_bck]
      refine ⟨⟨_, rfl, ?_⟩, hmr.below⟩
      rw [← hl]
      exact hg
end Go.Proofs.Ytaccjnekonmkoaa
