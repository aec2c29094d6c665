/-
  The walk of winepresslaw13.MtfMatches.
-/
import Derived.Test.YtaccjnekonmkoaaMtfBk
namespace Go.Proofs.Ytaccjnekonmkoaa
open Go Go.RowKit

set_option maxRecDepth 100000 in
set_option maxHeartbeats 4000000 in
theorem matches13 (l : List Int) (c k : Int) (v : Value) (b : List Int) (w : World) (hl : l.length = 256) (hbl : Bytes l) (hc : 0 ≤ c ∧ c < 256) (hv : In .u8 w v b) (hb : Bytes b) : Calls Try.prog 3 #[.agg (B l), .int .u8 c, .int .i64 k, v] w fun e w' => e = .returned (.bool true) ∧ Below w.heap.size w w' := by
  by_cases hn : b.length ≤ 400
  · obtain ⟨ad, cp, rfl, hcells⟩ := hv
    have HV : Hid (In .u8 w (.slice ad b.length cp) b) := ⟨ad, cp, rfl, hcells⟩
    have HB := Lib.hid hb
    have HL := Lib.hid hl
    have HBL := Lib.hid hbl
    have HC := Lib.hid hc
    have HD : Hid (vld l = dis l) := vld_dis hl hbl
    have hx : (putL l c).length = 256 := len_takeL l (pos l c) hl
    have hy : (takeL l k).length = 256 := len_takeL l k hl
    have HF : Hid ((forth b).length = b.length) := len_forth b
    have HG : Hid ((back b).length = b.length) := len_back b
    have hn1 : ¬ (400 : Int) < b.length := by omega
    have hn2 : decide ((400 : Int) < b.length) = false := decide_eq_false hn1
    generalize e1 : putL l c = x at *
    have E1 := Lib.hid e1
    clear e1
    generalize e2 : pos l c = p at *
    have E2 := Lib.hid e2
    clear e2
    generalize e3 : takeL l k = y at *
    have E3 := Lib.hid e3
    clear e3
    generalize e4 : takeC l k = s at *
    have E4 := Lib.hid e4
    clear e4
    generalize e5 : takeB k = t at *
    have E5 := Lib.hid e5
    clear e5
    have HX := Lib.hid hx
    have HY := Lib.hid hy
    clear hx hy hl hbl hc hcells hb
    go_enter Try.func3, Try.ntmps3
    have hm := Own.nil w
    go_upto_region 7 with (first
      | (refine wpList_box_o hm rfl rfl rfl ?_; intro w1 g1 hm1; clear hm)
      | (refine wpList_load_all rfl rfl rfl (hm1.row 0 rfl) (aggB _ HL.out) ?_)
      | (go_at_call 21; have _t := hm1; refine (put_any l c _ HL.out HBL.out HC.out).mono ?_; rintro e w2 ⟨rfl, hb2⟩; rw [E1.out, E2.out]; have hm2 := hm1.call hb2; clear hm1)
      | (refine wpList_alloc_o hm2 rfl rfl zero23 ?_; intro w3 g3 hm3; clear hm2)
      | (refine wpList_store_o 0 hm3 rfl rfl rfl rfl rfl (aggB _ HX.out) (size_BB _ _ HX.out len_zeros) (B_one _) ?_; intro w4 hm4; simp only [List.set] at hm4; clear hm3)
      | (refine wpList_load_all rfl rfl rfl (hm4.row 1 rfl) (aggB _ HL.out) ?_)
      | (go_at_call 22; have _t := hm4; refine (rput_any l c _ HL.out).mono ?_; rintro e w5 ⟨rfl, hb5⟩; rw [E1.out, E2.out]; have hm5 := hm4.call hb5; clear hm4)
      | (refine wpList_alloc_o hm5 rfl rfl zero23 ?_; intro w6 g6 hm6; clear hm5)
      | (refine wpList_store_o 0 hm6 rfl rfl rfl rfl rfl (aggB _ HX.out) (size_BB _ _ HX.out len_zeros) (B_one _) ?_; intro w7 hm7; simp only [List.set] at hm7; clear hm6)
      | (refine wpList_load_all rfl rfl rfl (hm7.row 2 rfl) (aggB _ HL.out) ?_)
      | (go_at_call 23; have _t := hm7; refine (take_any l k _ HL.out).mono ?_; rintro e w8 ⟨rfl, hb8⟩; rw [E3.out, E4.out, E5.out]; have hm8 := hm7.call hb8; clear hm7)
      | (refine wpList_alloc_o hm8 rfl rfl zero23 ?_; intro w9 g9 hm9; clear hm8)
      | (refine wpList_store_o 0 hm9 rfl rfl rfl rfl rfl (aggB _ HY.out) (size_BB _ _ HY.out len_zeros) (B_one _) ?_; intro w10 hm10; simp only [List.set] at hm10; clear hm9)
      | (refine wpList_load_all rfl rfl rfl (hm10.row 3 rfl) (aggB _ HL.out) ?_)
      | (go_at_call 24; have _t := hm10; refine (rtake_any l k _ HL.out).mono ?_; rintro e w11 ⟨rfl, hb11⟩; rw [E3.out, E4.out, E5.out]; have hm11 := hm10.call hb11; clear hm10)
      | (refine wpList_alloc_o hm11 rfl rfl zero23 ?_; intro w12 g12 hm12; clear hm11)
      | (refine wpList_store_o 0 hm12 rfl rfl rfl rfl rfl (aggB _ HY.out) (size_BB _ _ HY.out len_zeros) (B_one _) ?_; intro w13 hm13; simp only [List.set] at hm13; clear hm12))
    refine wp_region_ord [(0, true), (1, true), (2, true), (3, true), (4, true), (5, true), (6, true), (7, true), (8, true), (9, true), (10, true), (11, true), (12, true), (13, true), (14, true), (15, true), (16, true), (17, true), (18, true), (19, true), (20, true), (21, true), (22, true), (23, true), (24, true), (26, true), (25, false), (27, false), (28, true), (29, true), (30, true), (31, false), (32, false), (33, true), (34, true)] (fun W => RowIs W g3 (B x) ∧ RowIs W g6 (B x) ∧ RowIs W g9 (B y) ∧ RowIs W g12 (B y) ∧ RowIs W g1 (B l)) rfl (by kernel_rfl) rfl (by kernel_rfl) (fun _ _ d _ _ h => by cases d <;> exact h) ⟨(hm13.drawn (w13.drawn + 1)).row 3 rfl, (hm13.drawn (w13.drawn + 1)).row 2 rfl, (hm13.drawn (w13.drawn + 1)).row 1 rfl, (hm13.drawn (w13.drawn + 1)).row 0 rfl, (hm13.drawn (w13.drawn + 1)).row 4 rfl⟩ ?_
    have hm14 := hm13.drawn (w13.drawn + 1)
    generalize ({ w13 with drawn := w13.drawn + 1 } : World) = w14 at hm14 ⊢
    clear hm13
    refine ord_read_l rfl rfl (fun W hW => exec_load_all rfl rfl (hW.1) (aggB _ HX.out)) ?_
    simp only [Act.put, List.setIfInBounds_toArray, List.set_cons_zero, List.set_cons_succ]
    refine ord_read_l rfl rfl (fun W hW => exec_load_all rfl rfl (hW.2.1) (aggB _ HX.out)) ?_
    simp only [Act.put, List.setIfInBounds_toArray, List.set_cons_zero, List.set_cons_succ]
    refine ord_read_l rfl rfl (fun W hW => exec_neq23 rfl rfl rfl HX.out HX.out (b := false) (by simp)) ?_
    simp only [Act.put, List.setIfInBounds_toArray, List.set_cons_zero, List.set_cons_succ]
    refine ord_read_l rfl rfl (fun W hW => by go_simp; rfl) ?_
    simp only [Act.put, List.setIfInBounds_toArray, List.set_cons_zero, List.set_cons_succ]
    refine ord_read_l rfl rfl (fun W hW => by go_simp; rfl) ?_
    simp only [Act.put, List.setIfInBounds_toArray, List.set_cons_zero, List.set_cons_succ]
    refine ord_read_l rfl rfl (fun W hW => by go_simp; rfl) ?_
    simp only [Act.put, List.setIfInBounds_toArray, List.set_cons_zero, List.set_cons_succ]
    refine ord_read_l rfl rfl (fun W hW => by go_simp; rfl) ?_
    simp only [Act.put, List.setIfInBounds_toArray, List.set_cons_zero, List.set_cons_succ]
    refine ord_read_l rfl rfl (fun W hW => by go_simp; rfl) ?_
    simp only [Act.put, List.setIfInBounds_toArray, List.set_cons_zero, List.set_cons_succ]
    refine ord_read_l rfl rfl (fun W hW => by go_simp; rfl) ?_
    simp only [Act.put, List.setIfInBounds_toArray, List.set_cons_zero, List.set_cons_succ]
    refine ord_read_l rfl rfl (fun W hW => exec_load_all rfl rfl (hW.2.2.1) (aggB _ HY.out)) ?_
    simp only [Act.put, List.setIfInBounds_toArray, List.set_cons_zero, List.set_cons_succ]
    refine ord_read_l rfl rfl (fun W hW => exec_load_all rfl rfl (hW.2.2.2.1) (aggB _ HY.out)) ?_
    simp only [Act.put, List.setIfInBounds_toArray, List.set_cons_zero, List.set_cons_succ]
    refine ord_read_l rfl rfl (fun W hW => exec_neq23 rfl rfl rfl HY.out HY.out (b := false) (by simp)) ?_
    simp only [Act.put, List.setIfInBounds_toArray, List.set_cons_zero, List.set_cons_succ]
    refine ord_read_l rfl rfl (fun W hW => by go_simp; rfl) ?_
    simp only [Act.put, List.setIfInBounds_toArray, List.set_cons_zero, List.set_cons_succ]
    refine ord_read_l rfl rfl (fun W hW => by go_simp; rfl) ?_
    simp only [Act.put, List.setIfInBounds_toArray, List.set_cons_zero, List.set_cons_succ]
    refine ord_read_l rfl rfl (fun W hW => by go_simp; rfl) ?_
    simp only [Act.put, List.setIfInBounds_toArray, List.set_cons_zero, List.set_cons_succ]
    refine ord_read_l rfl rfl (fun W hW => by go_simp; rfl) ?_
    simp only [Act.put, List.setIfInBounds_toArray, List.set_cons_zero, List.set_cons_succ]
    refine ord_read_l rfl rfl (fun W hW => by go_simp; rfl) ?_
    simp only [Act.put, List.setIfInBounds_toArray, List.set_cons_zero, List.set_cons_succ]
    refine ord_read_l rfl rfl (fun W hW => by go_simp; rfl) ?_
    simp only [Act.put, List.setIfInBounds_toArray, List.set_cons_zero, List.set_cons_succ]
    refine ord_read_l rfl rfl (fun W hW => by go_simp; rfl) ?_
    simp only [Act.put, List.setIfInBounds_toArray, List.set_cons_zero, List.set_cons_succ]
    refine ord_read_l rfl rfl (fun W hW => by go_simp; rfl) ?_
    simp only [Act.put, List.setIfInBounds_toArray, List.set_cons_zero, List.set_cons_succ]
    refine ord_read_l rfl rfl (fun W hW => by go_simp; rfl) ?_
    simp only [Act.put, List.setIfInBounds_toArray, List.set_cons_zero, List.set_cons_succ]
    refine ord_read_l rfl rfl (fun W hW => by go_simp; rfl) ?_
    simp only [Act.put, List.setIfInBounds_toArray, List.set_cons_zero, List.set_cons_succ]
    refine ord_read_l rfl rfl (fun W hW => by go_simp; rfl) ?_
    simp only [Act.put, List.setIfInBounds_toArray, List.set_cons_zero, List.set_cons_succ]
    refine ord_read_l rfl rfl (fun W hW => by go_simp; rfl) ?_
    simp only [Act.put, List.setIfInBounds_toArray, List.set_cons_zero, List.set_cons_succ]
    refine ord_read_l rfl rfl (fun W hW => exec_load_all rfl rfl (hW.2.2.2.2) (aggB _ HL.out)) ?_
    simp only [Act.put, List.setIfInBounds_toArray, List.set_cons_zero, List.set_cons_succ]
    refine ord_read_l rfl rfl (fun W hW => exec_load_all rfl rfl (hW.2.2.2.2) (aggB _ HL.out)) ?_
    simp only [Act.put, List.setIfInBounds_toArray, List.set_cons_zero, List.set_cons_succ]
    refine ord_do_l rfl rfl (fun K hK => ?_)
    go_simp
    refine (valid_any l _ HL.out HBL.out).mono ?_
    rintro e w15 ⟨rfl, hb15⟩
    rw [HD.out]
    have hm15 := hm14.call hb15
    refine hK _ _ ⟨fun W => RowIs W g3 (B x) ∧ RowIs W g6 (B x) ∧ RowIs W g9 (B y) ∧ RowIs W g12 (B y) ∧ RowIs W g1 (B l), fun _ h => h, ⟨hm15.row 3 rfl, hm15.row 2 rfl, hm15.row 1 rfl, hm15.row 0 rfl, hm15.row 4 rfl⟩, ?_⟩
    clear hK K hm14
    refine ord_do_l rfl rfl (fun K hK => ?_)
    go_simp
    refine (rvalid_any l _ HL.out).mono ?_
    rintro e w16 ⟨rfl, hb16⟩
    have hm16 := hm15.call hb16
    refine hK _ _ ⟨fun W => RowIs W g3 (B x) ∧ RowIs W g6 (B x) ∧ RowIs W g9 (B y) ∧ RowIs W g12 (B y) ∧ RowIs W g1 (B l), fun _ h => h, ⟨hm16.row 3 rfl, hm16.row 2 rfl, hm16.row 1 rfl, hm16.row 0 rfl, hm16.row 4 rfl⟩, ?_⟩
    clear hK K hm15
    refine ord_read_l rfl rfl (fun W hW => by go_simp; rfl) ?_
    simp only [Act.put, List.setIfInBounds_toArray, List.set_cons_zero, List.set_cons_succ]
    refine ord_read_l rfl rfl (fun W hW => by go_simp; rfl) ?_
    simp only [Act.put, List.setIfInBounds_toArray, List.set_cons_zero, List.set_cons_succ]
    refine ord_read_l rfl rfl (fun W hW => by go_simp; rfl) ?_
    simp only [Act.put, List.setIfInBounds_toArray, List.set_cons_zero, List.set_cons_succ]
    refine ord_do_l rfl rfl (fun K hK => ?_)
    go_simp
    refine (new_any _).mono ?_
    rintro e w17 ⟨rfl, hb17⟩
    have hm17 := hm16.call hb17
    refine hK _ _ ⟨fun W => RowIs W g3 (B x) ∧ RowIs W g6 (B x) ∧ RowIs W g9 (B y) ∧ RowIs W g12 (B y) ∧ RowIs W g1 (B l), fun _ h => h, ⟨hm17.row 3 rfl, hm17.row 2 rfl, hm17.row 1 rfl, hm17.row 0 rfl, hm17.row 4 rfl⟩, ?_⟩
    clear hK K hm16
    refine ord_do_l rfl rfl (fun K hK => ?_)
    go_simp
    refine (rnew_any _).mono ?_
    rintro e w18 ⟨rfl, hb18⟩
    have hm18 := hm17.call hb18
    refine hK _ _ ⟨fun W => RowIs W g3 (B x) ∧ RowIs W g6 (B x) ∧ RowIs W g9 (B y) ∧ RowIs W g12 (B y) ∧ RowIs W g1 (B l), fun _ h => h, ⟨hm18.row 3 rfl, hm18.row 2 rfl, hm18.row 1 rfl, hm18.row 0 rfl, hm18.row 4 rfl⟩, ?_⟩
    clear hK K hm17
    refine ord_read_l rfl rfl (fun W hW => exec_neq23 rfl rfl rfl len_new len_new (b := false) (by simp)) ?_
    simp only [Act.put, List.setIfInBounds_toArray, List.set_cons_zero, List.set_cons_succ]
    refine ord_read_l rfl rfl (fun W hW => by go_simp; rfl) ?_
    simp only [Act.put, List.setIfInBounds_toArray, List.set_cons_zero, List.set_cons_succ]
    refine ord_nil ?_
    go_simp
    go_wp2_with fail
    refine wp_region_ord [(0, true), (3, true), (1, false), (2, true), (4, false), (5, true), (6, true), (7, true), (8, true), (11, true), (9, false), (10, true), (12, false), (13, true), (14, true), (15, true), (16, true), (17, false), (18, true), (19, true)] (fun W => Below w.heap.size w W) rfl (by kernel_rfl) rfl (by kernel_rfl) (fun _ _ d _ _ h => by cases d <;> exact h) (hm18.drawn (w18.drawn + 1)).below ?_
    have hm19 := hm18.drawn (w18.drawn + 1)
    generalize ({ w18 with drawn := w18.drawn + 1 } : World) = w19 at hm19 ⊢
    clear hm18
    refine ord_read_l rfl rfl (fun W hW => by go_simp; rfl) ?_
    simp only [Act.put, List.setIfInBounds_toArray, List.set_cons_zero, List.set_cons_succ]
    refine ord_read_l rfl rfl (fun W hW => by go_simp; rfl) ?_
    simp only [Act.put, List.setIfInBounds_toArray, List.set_cons_zero, List.set_cons_succ]
    refine ord_do_l rfl rfl (fun K hK => ?_)
    go_simp
    refine (forth_any _ b _ (HV.out.below hm19.below) HB.out (by omega)).mono ?_
    rintro e w20 ⟨⟨r20, rfl, ho20⟩, hb20⟩
    have hm20 := hm19.callSl hb20 (owns_len ho20 (len_forth _))
    refine hK _ _ ⟨fun W => (Below w.heap.size w W) ∧ Src W r20 (vs .u8 (forth b)), fun _ h => h.1, ⟨hm20.below, Src.of_owned (hm20.get 0 rfl)⟩, ?_⟩
    clear hK K hm19 ho20
    refine ord_read_l rfl rfl (fun W hW => exec_tostr_src (v := r20) rfl Try.underlying24 Try.underlying5 Try.underlying9 rfl hW.2) ?_
    simp only [Act.put, List.setIfInBounds_toArray, List.set_cons_zero, List.set_cons_succ]
    refine ord_do_l rfl rfl (fun K hK => ?_)
    go_simp
    refine (rforth_any _ b _ (HV.out.below hm20.below) HB.out (by omega)).mono ?_
    rintro e w21 ⟨⟨r21, rfl, ho21⟩, hb21⟩
    have hm21 := hm20.callSl hb21 (owns_len ho21 (len_forth _))
    refine hK _ _ ⟨fun W => ((Below w.heap.size w W) ∧ Src W r20 (vs .u8 (forth b))) ∧ Src W r21 (vs .u8 (forth b)), fun _ h => h.1, ⟨⟨hm21.below, Src.of_owned (hm21.get 1 rfl)⟩, Src.of_owned (hm21.get 0 rfl)⟩, ?_⟩
    clear hK K hm20 ho21
    refine ord_read_l rfl rfl (fun W hW => exec_tostr_src (v := r21) rfl Try.underlying24 Try.underlying5 Try.underlying9 rfl hW.2) ?_
    simp only [Act.put, List.setIfInBounds_toArray, List.set_cons_zero, List.set_cons_succ]
    refine ord_read_l rfl rfl (fun W hW => exec_eqlstr rfl rfl rfl (b := true) (by simp)) ?_
    simp only [Act.put, List.setIfInBounds_toArray, List.set_cons_zero, List.set_cons_succ]
    refine ord_read_l rfl rfl (fun W hW => by go_simp; rfl) ?_
    simp only [Act.put, List.setIfInBounds_toArray, List.set_cons_zero, List.set_cons_succ]
    refine ord_read_l rfl rfl (fun W hW => by go_simp; rfl) ?_
    simp only [Act.put, List.setIfInBounds_toArray, List.set_cons_zero, List.set_cons_succ]
    refine ord_read_l rfl rfl (fun W hW => by go_simp; rfl) ?_
    simp only [Act.put, List.setIfInBounds_toArray, List.set_cons_zero, List.set_cons_succ]
    refine ord_do_l rfl rfl (fun K hK => ?_)
    go_simp
    refine (back_any _ b _ (HV.out.below hm21.below) HB.out (by omega)).mono ?_
    rintro e w22 ⟨⟨r22, rfl, ho22⟩, hb22⟩
    have hm22 := hm21.callSl hb22 (owns_len ho22 (len_back _))
    refine hK _ _ ⟨fun W => (((Below w.heap.size w W) ∧ Src W r20 (vs .u8 (forth b))) ∧ Src W r21 (vs .u8 (forth b))) ∧ Src W r22 (vs .u8 (back b)), fun _ h => h.1, ⟨⟨⟨hm22.below, Src.of_owned (hm22.get 2 rfl)⟩, Src.of_owned (hm22.get 1 rfl)⟩, Src.of_owned (hm22.get 0 rfl)⟩, ?_⟩
    clear hK K hm21 ho22
    refine ord_read_l rfl rfl (fun W hW => exec_tostr_src (v := r22) rfl Try.underlying24 Try.underlying5 Try.underlying9 rfl hW.2) ?_
    simp only [Act.put, List.setIfInBounds_toArray, List.set_cons_zero, List.set_cons_succ]
    refine ord_do_l rfl rfl (fun K hK => ?_)
    go_simp
    refine (rback_any _ b _ (HV.out.below hm22.below) HB.out (by omega)).mono ?_
    rintro e w23 ⟨⟨r23, rfl, ho23⟩, hb23⟩
    have hm23 := hm22.callSl hb23 (owns_len ho23 (len_back _))
    refine hK _ _ ⟨fun W => ((((Below w.heap.size w W) ∧ Src W r20 (vs .u8 (forth b))) ∧ Src W r21 (vs .u8 (forth b))) ∧ Src W r22 (vs .u8 (back b))) ∧ Src W r23 (vs .u8 (back b)), fun _ h => h.1, ⟨⟨⟨⟨hm23.below, Src.of_owned (hm23.get 3 rfl)⟩, Src.of_owned (hm23.get 2 rfl)⟩, Src.of_owned (hm23.get 1 rfl)⟩, Src.of_owned (hm23.get 0 rfl)⟩, ?_⟩
    clear hK K hm22 ho23
    refine ord_read_l rfl rfl (fun W hW => exec_tostr_src (v := r23) rfl Try.underlying24 Try.underlying5 Try.underlying9 rfl hW.2) ?_
    simp only [Act.put, List.setIfInBounds_toArray, List.set_cons_zero, List.set_cons_succ]
    refine ord_read_l rfl rfl (fun W hW => exec_eqlstr rfl rfl rfl (b := true) (by simp)) ?_
    simp only [Act.put, List.setIfInBounds_toArray, List.set_cons_zero, List.set_cons_succ]
    refine ord_read_l rfl rfl (fun W hW => by go_simp; rfl) ?_
    simp only [Act.put, List.setIfInBounds_toArray, List.set_cons_zero, List.set_cons_succ]
    refine ord_read_l rfl rfl (fun W hW => by go_simp; rfl) ?_
    simp only [Act.put, List.setIfInBounds_toArray, List.set_cons_zero, List.set_cons_succ]
    refine ord_do_l rfl rfl (fun K hK => ?_)
    go_simp
    refine (wakes13 _).mono ?_
    rintro e w24 ⟨rfl, hb24⟩
    have hm24 := hm23.call hb24
    refine hK _ _ ⟨fun W => ((((Below w.heap.size w W) ∧ Src W r20 (vs .u8 (forth b))) ∧ Src W r21 (vs .u8 (forth b))) ∧ Src W r22 (vs .u8 (back b))) ∧ Src W r23 (vs .u8 (back b)), fun _ h => h, ⟨⟨⟨⟨hm24.below, Src.of_owned (hm24.get 3 rfl)⟩, Src.of_owned (hm24.get 2 rfl)⟩, Src.of_owned (hm24.get 1 rfl)⟩, Src.of_owned (hm24.get 0 rfl)⟩, ?_⟩
    clear hK K hm23
    refine ord_read_l rfl rfl (fun W hW => by go_simp; rfl) ?_
    simp only [Act.put, List.setIfInBounds_toArray, List.set_cons_zero, List.set_cons_succ]
    refine ord_read_l rfl rfl (fun W hW => by go_simp; rfl) ?_
    simp only [Act.put, List.setIfInBounds_toArray, List.set_cons_zero, List.set_cons_succ]
    refine ord_nil ?_
    go_simp
    go_wp2_with fail
    go_ret
    exact ⟨rfl, hm24.below⟩
  · obtain ⟨ad, cp, rfl, hcells⟩ := hv
    have hn1 : (400 : Int) < b.length := by omega
    have hn2 : decide ((400 : Int) < b.length) = true := decide_eq_true hn1
    have HL := Lib.hid hl
    clear hcells hb hn hl hbl hc
    go_enter Try.func3, Try.ntmps3
    have hm := Own.nil w
    go_wp2_with (first
      | (refine wpList_box_o hm rfl rfl rfl ?_; intro w1 g1 hm1; clear hm)
      | (go_at_call 20; refine (wakes13 _).mono ?_; rintro e w2 ⟨rfl, hb2⟩; have hm2 := hm1.call hb2; clear hm1))
    go_ret
    exact ⟨rfl, hm2.below⟩
end Go.Proofs.Ytaccjnekonmkoaa
