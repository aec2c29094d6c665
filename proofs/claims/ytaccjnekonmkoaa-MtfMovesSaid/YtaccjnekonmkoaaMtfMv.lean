/-
  The walk of winepresslaw13.MtfMoves.
-/
import Derived.Test.YtaccjnekonmkoaaMtfTw
namespace Go.Proofs.Ytaccjnekonmkoaa
open Go Go.RowKit

set_option maxRecDepth 100000 in
set_option maxHeartbeats 4000000 in
theorem moves13 (l : List Int) (a : Int) (w : World) (hl : l.length = 256) (hb : Bytes l) (ha : 0 ≤ a ∧ a < 256) : Calls Try.prog 5 #[.agg (B l), .int .u8 a] w fun e w' => e = .returned (.bool true) ∧ Below w.heap.size w w' := by
  by_cases hd : dis l = true
  · have hV : Vl l := vl_of_nodup hl hb (by simpa [dis] using hd)
    have HD : Hid (dis l = true) := hd
    have hX := hV.putL a
    have HM : Hid (∀ i : Nat, 1 ≤ i → gi (putL l a) i = gi l (if i ≤ (pos l a).toNat then i - 1 else i)) := fun i hi => gi_putL hV ha.1 ha.2 i hi
    have hg := pos_get hV ha.1 ha.2
    have hr := pos_range hV ha.1 ha.2
    have T1 : Hid (takeL l (pos l a) = putL l a) := rfl
    have T2 : Hid (takeC l (pos l a) = a) := takeC_pos hV ha.1 ha.2
    have C1 : Hid ((B (putL l a))[0]? = some (.int .u8 a)) := cell_at _ hX.len 0 (by omega) (gi_putL_zero hV ha.1 ha.2)
    have HVX : Hid (vld (putL l a) = true) := (vl_iff hX.len hX.bytes).2 hX
    generalize e : putL l a = x at *
    have E := Lib.hid e
    clear e
    generalize f : pos l a = q at *
    obtain ⟨p, rfl⟩ := Int.eq_ofNat_of_zero_le hr.1
    have F := Lib.hid f
    clear f
    rw [Int.toNat_natCast] at hg HM
    have C2 : Hid ((B l)[p]? = some (.int .u8 a)) := cell_at _ hV.len p (by omega) hg
    have T3 : Hid (takeB p = true) := by show takeB p = true; rw [takeB, decide_eq_true_iff]; omega
    have HX := Lib.hid hX
    have HV := Lib.hid hV
    have HA := Lib.hid ha
    have hp : p < 256 := by omega
    have hp1 : (p : Int) < 256 := by omega
    have hp2 : ¬ (255 : Int) < p := by omega
    have hp3 : decide ((255 : Int) < p) = false := decide_eq_false hp2
    have hp4 : ¬ (p : Int) < 0 := by omega
    have hp5 : decide ((p : Int) < 0) = false := decide_eq_false hp4
    clear hV hX hd ha hl hb hg hr
    go_enter Try.func5, Try.ntmps5
    have hm := Own.nil w
    go_wp2_with (first
      | (refine wpList_box_o hm rfl rfl rfl ?_; intro w1 g1 hm1; clear hm)
      | (refine wpList_load_all rfl rfl rfl (hm1.row 0 rfl) (aggB _ HV.out.len) ?_)
      | (go_at_call 26; have _t := hm1; refine (rvalid_any l _ HV.out.len).mono ?_; rintro e w2 ⟨rfl, hb2⟩; rw [HD.out]; have hm2 := hm1.call hb2; clear hm1)
      | (refine wpList_load_all rfl rfl rfl (hm2.row 0 rfl) (aggB _ HV.out.len) ?_)
      | (go_at_call 21; have _t := hm2; refine (put_any l a _ HV.out.len HV.out.bytes HA.out).mono ?_; rintro e w3 ⟨rfl, hb3⟩; rw [E.out, F.out]; have hm3 := hm2.call hb3; clear hm2)
      | (refine wpList_alloc_o hm3 rfl rfl zero23 ?_; intro w4 g4 hm4; clear hm3)
      | (refine wpList_store_o 0 hm4 rfl rfl rfl rfl rfl (aggB _ HX.out.len) (size_BB _ _ HX.out.len len_zeros) (B_one _) ?_; intro w5 hm5; simp only [List.set] at hm5; clear hm4)
      | (refine wpList_run rfl (exec_loadcell' rfl rfl (hm5.row 1 rfl) one5 C2.out) ?_)
      | (refine wpList_run rfl (exec_loadcell' rfl rfl (hm5.row 0 rfl) one5 C1.out) ?_)
      | (refine wpList_load_all rfl rfl rfl (hm5.row 0 rfl) (aggB _ HX.out.len) ?_)
      | (go_at_call 25; have _t := hm5; refine (valid_any x _ HX.out.len HX.out.bytes).mono ?_; rintro e w6 ⟨rfl, hb6⟩; rw [HVX.out]; have hm6 := hm5.call hb6; clear hm5))
    go_loopw [7] (fun v wr => ∃ i : Nat, 1 ≤ i ∧ i ≤ 256 ∧ v = .int .i64 i ∧ Own w wr [(g4, B x), (g1, B l)] []) (fun v _ => 256 - (intOf v).toNat)
    case atStart => exact ⟨1, by omega, by omega, rfl, hm6⟩
    case round =>
      obtain ⟨i, h1, hi, rfl, hmr⟩ := hrel
      clear hm6
      by_cases hlt : i < 256
      · have b1 : (i : Int) < 256 := by omega
        have hxi := cell_at x HX.out.len i hlt (HM.out i h1)
        by_cases hip : i ≤ p
        · rw [if_pos hip] at hxi
          have hli := cell_at l HV.out.len (i - 1) (by omega) rfl
          have b2 : (i : Int) ≤ p := by omega
          have b3 : ((i - 1 : Nat) : Int) < 256 := by omega
          have b4 : IntKind.i64.wrap ((i : Int) - 1) = ((i - 1 : Nat) : Int) := by rw [IntWalk.i64_in _ (by omega)]; omega
          go_wp2_with fail
          refine wp_region_ord [(0, true), (1, true), (2, true), (3, true), (4, true), (5, true), (6, true)] (fun W => RowIs W g4 (B x) ∧ RowIs W g1 (B l)) rfl (by kernel_rfl) rfl (by kernel_rfl) (fun _ _ d _ _ h => by cases d <;> exact h) ⟨(hmr.drawn (wr.drawn + 1)).row 0 rfl, (hmr.drawn (wr.drawn + 1)).row 1 rfl⟩ ?_
          have hm8 := hmr.drawn (wr.drawn + 1)
          generalize ({ wr with drawn := wr.drawn + 1 } : World) = w8 at hm8 ⊢
          refine ord_read rfl rfl (fun W hW => by go_simp; rfl) ?_
          refine ord_read rfl rfl (fun W hW => by go_simp; rfl) ?_
          refine ord_read rfl rfl (fun W hW => exec_loadcell' rfl rfl hW.1 one5 hxi) ?_
          refine ord_read rfl rfl (fun W hW => by go_simp; rfl) ?_
          refine ord_read rfl rfl (fun W hW => by go_simp; rfl) ?_
          refine ord_read rfl rfl (fun W hW => exec_loadcell' rfl rfl hW.2 one5 hli) ?_
          refine ord_read rfl rfl (fun W hW => by go_simp; rfl) ?_
          refine ord_nil ?_
          go_simp
          go_wp2
          go_roundw
          case rel => exact ⟨i + 1, by omega, by omega, by go_num, hm8⟩
          case measure => simp [intOf]; omega
        · rw [if_neg hip] at hxi
          have hli := cell_at l HV.out.len i hlt rfl
          have b2 : ¬ (i : Int) ≤ p := by omega
          have b3 : decide ((i : Int) ≤ p) = false := decide_eq_false b2
          go_wp2_with fail
          refine wp_region_ord [(0, true), (1, true), (2, true), (3, true), (4, true), (5, true), (6, true)] (fun W => RowIs W g4 (B x) ∧ RowIs W g1 (B l)) rfl (by kernel_rfl) rfl (by kernel_rfl) (fun _ _ d _ _ h => by cases d <;> exact h) ⟨(hmr.drawn (wr.drawn + 1)).row 0 rfl, (hmr.drawn (wr.drawn + 1)).row 1 rfl⟩ ?_
          have hm8 := hmr.drawn (wr.drawn + 1)
          generalize ({ wr with drawn := wr.drawn + 1 } : World) = w8 at hm8 ⊢
          refine ord_read rfl rfl (fun W hW => by go_simp; rfl) ?_
          refine ord_read rfl rfl (fun W hW => by go_simp; rfl) ?_
          refine ord_read rfl rfl (fun W hW => exec_loadcell' rfl rfl hW.1 one5 hxi) ?_
          refine ord_read rfl rfl (fun W hW => by go_simp; rfl) ?_
          refine ord_read rfl rfl (fun W hW => by go_simp; rfl) ?_
          refine ord_read rfl rfl (fun W hW => exec_loadcell' rfl rfl hW.2 one5 hli) ?_
          refine ord_read rfl rfl (fun W hW => by go_simp; rfl) ?_
          refine ord_nil ?_
          go_simp
          go_wp2
          go_roundw
          case rel => exact ⟨i + 1, by omega, by omega, by go_num, hm8⟩
          case measure => simp [intOf]; omega
      · obtain rfl : i = 256 := by omega
        go_wp2_with (first
          | (refine wpList_load_all rfl rfl rfl (hmr.row 1 rfl) (aggB _ HV.out.len) ?_)
          | (go_at_call 23; have _t := hmr; refine (take_any l p _ HV.out.len).mono ?_; rintro e w7 ⟨rfl, hb7⟩; rw [T1.out, T2.out, T3.out]; have hm7 := hmr.call hb7; clear hmr)
          | (refine wpList_alloc_o hm7 rfl rfl zero23 ?_; intro w8 g8 hm8; clear hm7)
          | (refine wpList_store_o 0 hm8 rfl rfl rfl rfl rfl (aggB _ HX.out.len) (size_BB _ _ HX.out.len len_zeros) (B_one _) ?_; intro w9 hm9; simp only [List.set] at hm9; clear hm8)
          | (refine wpList_load_all rfl rfl rfl (hm9.row 0 rfl) (aggB _ HX.out.len) ?_)
          | (refine wpList_load_all rfl rfl rfl (hm9.row 1 rfl) (aggB _ HX.out.len) ?_)
          | (refine wpList_run rfl (exec_eql23 rfl rfl rfl HX.out.len HX.out.len (beq_self_eq_true _)) ?_)
          | (go_at_call 20; have _t := hm9; refine (wakes13 _).mono ?_; rintro e w10 ⟨rfl, hb10⟩; have hm10 := hm9.call hb10; clear hm9))
        go_ret
        exact ⟨rfl, hm10.below⟩
  · have HD : Hid (dis l = false) := by show dis l = false; simpa using hd
    have HE : Hid (vld l = false) := by show vld l = false; rw [vld_dis hl hb]; exact HD.out
    have HL := Lib.hid hl
    have HB := Lib.hid hb
    clear hd hl hb ha
    go_enter Try.func5, Try.ntmps5
    have hm := Own.nil w
    go_wp2_with (first
      | (refine wpList_box_o hm rfl rfl rfl ?_; intro w1 g1 hm1; clear hm)
      | (refine wpList_load_all rfl rfl rfl (hm1.row 0 rfl) (aggB _ HL.out) ?_)
      | (go_at_call 26; refine (rvalid_any l _ HL.out).mono ?_; rintro e w2 ⟨rfl, hb2⟩; rw [HD.out]; have hm2 := hm1.call hb2; clear hm1)
      | (refine wpList_load_all rfl rfl rfl (hm2.row 0 rfl) (aggB _ HL.out) ?_)
      | (go_at_call 25; have _t := hm2; refine (valid_any l _ HL.out HB.out).mono ?_; rintro e w3 ⟨rfl, hb3⟩; rw [HE.out]; have hm3 := hm2.call hb3; clear hm2)
      | (go_at_call 20; have _t := hm3; refine (wakes13 _).mono ?_; rintro e w4 ⟨rfl, hb4⟩; have hm4 := hm3.call hb4; clear hm3))
    go_ret
    exact ⟨rfl, hm4.below⟩
end Go.Proofs.Ytaccjnekonmkoaa
