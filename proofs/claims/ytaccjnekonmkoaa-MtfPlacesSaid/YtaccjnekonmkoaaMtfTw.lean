/-
  The walk of winepresslaw13.MtfTwice.
-/
import Derived.Test.YtaccjnekonmkoaaMtfW
import Derived.Test.YtaccjnekonmkoaaPlainC
namespace Go.Proofs.Ytaccjnekonmkoaa
open Go Go.RowKit

theorem cell_at (l : List Int) (hl : l.length = 256) (k : Nat) (hk : k < 256) {v : Int} (h : gi l k = v) : (B l)[k]? = some (.int .u8 v) := by rw [get_B l k (by omega), h]

set_option maxRecDepth 100000 in
set_option maxHeartbeats 4000000 in
theorem twice13 (l : List Int) (a b : Int) (w : World) (hl : l.length = 256) (hb : Bytes l) (ha : 0 ≤ a ∧ a < 256) (hc : 0 ≤ b ∧ b < 256) : Calls Try.prog 7 #[.agg (B l), .int .u8 a, .int .u8 b] w fun e w' => e = .returned (.bool true) ∧ Below w.heap.size w w' := by
  by_cases hd : dis l = true
  · have hV : Vl l := vl_of_nodup hl hb (by simpa [dis] using hd)
    have HD : Hid (dis l = true) := hd
    have hX := hV.putL a
    have hZ := hX.putL b
    obtain ⟨t1, t2⟩ := putL_twice hV ha.1 ha.2
    have T1 : Hid (putL (putL l a) a = putL l a) := t1
    have T2 : Hid (pos (putL l a) a = 0) := t2
    have T3 : Hid (takeL (putL (putL l a) b) 0 = putL (putL l a) b) := takeL_zero hZ.len
    have T4 : Hid (takeC (putL (putL l a) b) 0 = b) := by show takeC _ _ = _; rw [takeC_zero, gi_putL_zero hX hc.1 hc.2]
    have T5 : Hid (takeB 0 = true) := rfl
    have C0 : Hid ((B (putL (putL l a) b))[0]? = some (.int .u8 b)) := cell_at _ hZ.len 0 (by omega) (gi_putL_zero hX hc.1 hc.2)
    have C1 : ¬ a = b → Hid ((B (putL (putL l a) b))[1]? = some (.int .u8 a)) := fun h => cell_at _ hZ.len 1 (by omega) (putL_next hV ha.1 ha.2 hc.1 hc.2 h)
    generalize f : putL (putL l a) b = z at *
    have F0 := Lib.hid f
    clear f
    have HX := Lib.hid hX
    have HV := Lib.hid hV
    have HZ := Lib.hid hZ
    have HA := Lib.hid ha
    have HB := Lib.hid hc
    clear hV hX hZ t1 t2 hd ha hc hl hb
    generalize e : putL l a = x at *
    have E := Lib.hid e
    have F : Hid (putL x b = z) := F0
    clear e F0
    by_cases hab : a = b
    · subst hab
      clear C1
      go_enter Try.func7, Try.ntmps7
      have hm := Own.nil w
      go_wp2_with (first
        | (refine wpList_box_o hm rfl rfl rfl ?_; intro w1 g1 hm1; clear hm)
        | (refine wpList_load_all rfl rfl rfl (hm1.row 0 rfl) (aggB _ HV.out.len) ?_)
        | (go_at_call 26; have _t := hm1; refine (rvalid_any l _ HV.out.len).mono ?_; rintro e w2 ⟨rfl, hb2⟩; rw [HD.out]; have hm2 := hm1.call hb2; clear hm1)
        | (refine wpList_load_all rfl rfl rfl (hm2.row 0 rfl) (aggB _ HV.out.len) ?_)
        | (go_at_call 21; have _t := hm2; refine (put_any l a _ HV.out.len HV.out.bytes HA.out).mono ?_; rintro e w3 ⟨rfl, hb3⟩; rw [E.out]; have hm3 := hm2.call hb3; clear hm2)
        | (refine wpList_alloc_o hm3 rfl rfl zero23 ?_; intro w4 g4 hm4; clear hm3)
        | (refine wpList_store_o 0 hm4 rfl rfl rfl rfl rfl (aggB _ HX.out.len) (size_BB _ _ HX.out.len len_zeros) (B_one _) ?_; intro w5 hm5; simp only [List.set] at hm5; clear hm4)
        | (refine wpList_load_all rfl rfl rfl (hm5.row 0 rfl) (aggB _ HX.out.len) ?_)
        | (go_at_call 21; have _t := hm5; refine (put_any x a _ HX.out.len HX.out.bytes HA.out).mono ?_; rintro e w6 ⟨rfl, hb6⟩; rw [T1.out, T2.out]; have hm6 := hm5.call hb6; clear hm5)
        | (refine wpList_alloc_o hm6 rfl rfl zero23 ?_; intro w7 g7 hm7; clear hm6)
        | (refine wpList_store_o 0 hm7 rfl rfl rfl rfl rfl (aggB _ HX.out.len) (size_BB _ _ HX.out.len len_zeros) (B_one _) ?_; intro w8 hm8; simp only [List.set] at hm8; clear hm7)
        | (refine wpList_load_all rfl rfl rfl (hm8.row 1 rfl) (aggB _ HX.out.len) ?_)
        | (go_at_call 21; have _t := hm8; refine (put_any x _ _ HX.out.len HX.out.bytes HB.out).mono ?_; rintro e w9 ⟨rfl, hb9⟩; rw [F.out]; have hm9 := hm8.call hb9; clear hm8)
        | (refine wpList_alloc_o hm9 rfl rfl zero23 ?_; intro w10 g10 hm10; clear hm9)
        | (refine wpList_store_o 0 hm10 rfl rfl rfl rfl rfl (aggB _ HZ.out.len) (size_BB _ _ HZ.out.len len_zeros) (B_one _) ?_; intro w11 hm11; simp only [List.set] at hm11; clear hm10)
        | (refine wpList_load_all rfl rfl rfl (hm11.row 0 rfl) (aggB _ HZ.out.len) ?_)
        | (go_at_call 23; have _t := hm11; refine (take_any z 0 _ HZ.out.len).mono ?_; rintro e w12 ⟨rfl, hb12⟩; rw [T3.out, T4.out, T5.out]; have hm12 := hm11.call hb12; clear hm11)
        | (refine wpList_alloc_o hm12 rfl rfl zero23 ?_; intro w13 g13 hm13; clear hm12)
        | (refine wpList_store_o 0 hm13 rfl rfl rfl rfl rfl (aggB _ HZ.out.len) (size_BB _ _ HZ.out.len len_zeros) (B_one _) ?_; intro w14 hm14; simp only [List.set] at hm14; clear hm13)
        | (refine wpList_load_all rfl rfl rfl (hm14.row 2 rfl) (aggB _ HX.out.len) ?_)
        | (refine wpList_load_all rfl rfl rfl (hm14.row 3 rfl) (aggB _ HX.out.len) ?_)
        | (refine wpList_load_all rfl rfl rfl (hm14.row 0 rfl) (aggB _ HZ.out.len) ?_)
        | (refine wpList_load_all rfl rfl rfl (hm14.row 1 rfl) (aggB _ HZ.out.len) ?_)
        | (refine wpList_run rfl (exec_loadcell' rfl rfl (hm14.row 1 rfl) one5 C0.out) ?_)
        | (refine wpList_run rfl (exec_eql23 rfl rfl rfl HX.out.len HX.out.len (beq_self_eq_true _)) ?_)
        | (refine wpList_run rfl (exec_eql23 rfl rfl rfl HZ.out.len HZ.out.len (beq_self_eq_true _)) ?_)
        | (go_at_call 20; have _t := hm14; refine (wakes13 _).mono ?_; rintro e w15 ⟨rfl, hb15⟩; have hm15 := hm14.call hb15; clear hm14))
      go_ret
      exact ⟨rfl, hm15.below⟩
    · have C1' := C1 hab
      clear C1
      have hab1 : decide (a = b) = false := decide_eq_false hab
      have hab2 : (a == b) = false := by simpa using hab
      go_enter Try.func7, Try.ntmps7
      have hm := Own.nil w
      go_wp2_with (first
        | (refine wpList_box_o hm rfl rfl rfl ?_; intro w1 g1 hm1; clear hm)
        | (refine wpList_load_all rfl rfl rfl (hm1.row 0 rfl) (aggB _ HV.out.len) ?_)
        | (go_at_call 26; have _t := hm1; refine (rvalid_any l _ HV.out.len).mono ?_; rintro e w2 ⟨rfl, hb2⟩; rw [HD.out]; have hm2 := hm1.call hb2; clear hm1)
        | (refine wpList_load_all rfl rfl rfl (hm2.row 0 rfl) (aggB _ HV.out.len) ?_)
        | (go_at_call 21; have _t := hm2; refine (put_any l a _ HV.out.len HV.out.bytes HA.out).mono ?_; rintro e w3 ⟨rfl, hb3⟩; rw [E.out]; have hm3 := hm2.call hb3; clear hm2)
        | (refine wpList_alloc_o hm3 rfl rfl zero23 ?_; intro w4 g4 hm4; clear hm3)
        | (refine wpList_store_o 0 hm4 rfl rfl rfl rfl rfl (aggB _ HX.out.len) (size_BB _ _ HX.out.len len_zeros) (B_one _) ?_; intro w5 hm5; simp only [List.set] at hm5; clear hm4)
        | (refine wpList_load_all rfl rfl rfl (hm5.row 0 rfl) (aggB _ HX.out.len) ?_)
        | (go_at_call 21; have _t := hm5; refine (put_any x a _ HX.out.len HX.out.bytes HA.out).mono ?_; rintro e w6 ⟨rfl, hb6⟩; rw [T1.out, T2.out]; have hm6 := hm5.call hb6; clear hm5)
        | (refine wpList_alloc_o hm6 rfl rfl zero23 ?_; intro w7 g7 hm7; clear hm6)
        | (refine wpList_store_o 0 hm7 rfl rfl rfl rfl rfl (aggB _ HX.out.len) (size_BB _ _ HX.out.len len_zeros) (B_one _) ?_; intro w8 hm8; simp only [List.set] at hm8; clear hm7)
        | (refine wpList_load_all rfl rfl rfl (hm8.row 1 rfl) (aggB _ HX.out.len) ?_)
        | (go_at_call 21; have _t := hm8; refine (put_any x _ _ HX.out.len HX.out.bytes HB.out).mono ?_; rintro e w9 ⟨rfl, hb9⟩; rw [F.out]; have hm9 := hm8.call hb9; clear hm8)
        | (refine wpList_alloc_o hm9 rfl rfl zero23 ?_; intro w10 g10 hm10; clear hm9)
        | (refine wpList_store_o 0 hm10 rfl rfl rfl rfl rfl (aggB _ HZ.out.len) (size_BB _ _ HZ.out.len len_zeros) (B_one _) ?_; intro w11 hm11; simp only [List.set] at hm11; clear hm10)
        | (refine wpList_load_all rfl rfl rfl (hm11.row 0 rfl) (aggB _ HZ.out.len) ?_)
        | (go_at_call 23; have _t := hm11; refine (take_any z 0 _ HZ.out.len).mono ?_; rintro e w12 ⟨rfl, hb12⟩; rw [T3.out, T4.out, T5.out]; have hm12 := hm11.call hb12; clear hm11)
        | (refine wpList_alloc_o hm12 rfl rfl zero23 ?_; intro w13 g13 hm13; clear hm12)
        | (refine wpList_store_o 0 hm13 rfl rfl rfl rfl rfl (aggB _ HZ.out.len) (size_BB _ _ HZ.out.len len_zeros) (B_one _) ?_; intro w14 hm14; simp only [List.set] at hm14; clear hm13)
        | (refine wpList_load_all rfl rfl rfl (hm14.row 2 rfl) (aggB _ HX.out.len) ?_)
        | (refine wpList_load_all rfl rfl rfl (hm14.row 3 rfl) (aggB _ HX.out.len) ?_)
        | (refine wpList_load_all rfl rfl rfl (hm14.row 0 rfl) (aggB _ HZ.out.len) ?_)
        | (refine wpList_load_all rfl rfl rfl (hm14.row 1 rfl) (aggB _ HZ.out.len) ?_)
        | (refine wpList_run rfl (exec_loadcell' rfl rfl (hm14.row 1 rfl) one5 C0.out) ?_)
        | (refine wpList_run rfl (exec_loadcell' rfl rfl (hm14.row 1 rfl) one5 C1'.out) ?_)
        | (refine wpList_run rfl (exec_eql23 rfl rfl rfl HX.out.len HX.out.len (beq_self_eq_true _)) ?_)
        | (refine wpList_run rfl (exec_eql23 rfl rfl rfl HZ.out.len HZ.out.len (beq_self_eq_true _)) ?_)
        | (go_at_call 20; have _t := hm14; refine (wakes13 _).mono ?_; rintro e w15 ⟨rfl, hb15⟩; have hm15 := hm14.call hb15; clear hm14))
      go_ret
      exact ⟨rfl, hm15.below⟩
  · have HD : Hid (dis l = false) := by show dis l = false; simpa using hd
    have HL := Lib.hid hl
    clear hd hl hb ha hc
    go_enter Try.func7, Try.ntmps7
    have hm := Own.nil w
    go_wp2_with (first
      | (refine wpList_box_o hm rfl rfl rfl ?_; intro w1 g1 hm1; clear hm)
      | (refine wpList_load_all rfl rfl rfl (hm1.row 0 rfl) (aggB _ HL.out) ?_)
      | (go_at_call 26; refine (rvalid_any l _ HL.out).mono ?_; rintro e w2 ⟨rfl, hb2⟩; rw [HD.out]; have hm2 := hm1.call hb2; clear hm1)
      | (go_at_call 20; have _t := hm2; refine (wakes13 _).mono ?_; rintro e w3 ⟨rfl, hb3⟩; have hm3 := hm2.call hb3; clear hm2))
    go_ret
    exact ⟨rfl, hm3.below⟩
end Go.Proofs.Ytaccjnekonmkoaa
