/-
  The walk of the laws' own examples (winepresslaw23.wakes): it returns true.
-/
import Derived.Test.YtihocpbkibfpmaaPolF
namespace Go.Proofs.Ytihocpbkibfpmaa
open Go Go.RowKit

def LL : List Int := [73728, 100, 131072, 100, 327684, 604]
theorem cells_ok (l : List Int) : ∀ u ∈ vs .i64 l, u.oneCell' = true := by
  intro u hu
  simp only [vs, List.mem_map] at hu
  obtain ⟨x, _, rfl⟩ := hu
  rfl

set_option maxRecDepth 100000 in
set_option maxHeartbeats 4000000 in
theorem wakes23 (w : World) : Calls Try.prog 20 #[] w fun e w' => e = .returned (.bool true) ∧ Below w.heap.size w w' := by
  have N1 : Hid (need 65536 2 1 = 73728) := by show need 65536 2 1 = 73728; decide +kernel
  have N2 : Hid (need 65536 2 2 = 131072) := by show need 65536 2 2 = 131072; decide +kernel
  have N3 : Hid (need 65536 2 3 = 327684) := by show need 65536 2 3 = 327684; decide +kernel
  have M1 : Hid (need 100 1 1 = 100) := by show need 100 1 1 = 100; decide +kernel
  have M2 : Hid (need 100 1 2 = 100) := by show need 100 1 2 = 100; decide +kernel
  have M3 : Hid (need 100 1 3 = 604) := by show need 100 1 3 = 604; decide +kernel
  have E1 : Hid (er 65536 2 1 = 0) := by show er 65536 2 1 = 0; decide +kernel
  have L1 : Hid (lay 100 1 3 = [100, 100, 404]) := by show lay 100 1 3 = _; decide +kernel
  have L2 : Hid (er 100 1 3 = 0) := by show er 100 1 3 = _; decide +kernel
  have L3 : Hid (er 0 1 3 = 2) := by show er 0 1 3 = _; decide +kernel
  have P1 : Hid (pk 99 100 1 = (0, 230)) := by show pk 99 100 1 = _; decide +kernel
  have P2 : Hid (pk 603 100 1 = (2, 0)) := by show pk 603 100 1 = _; decide +kernel
  have P3 : Hid (pk 604 100 1 = (3, 0)) := by show pk 604 100 1 = _; decide +kernel
  have P4 : Hid (pk 0 100 1 = (0, 2)) := by show pk 0 100 1 = _; decide +kernel
  have B1 : Hid (bnd 100 3 = 10016) := by show bnd 100 3 = _; decide +kernel
  have B2 : Hid (er 100 2 3 = 0) := by show er 100 2 3 = _; decide +kernel
  obtain ⟨i3, hE⟩ := el22
  have HE := Lib.hid hE
  clear hE
  go_enter Try.func20, Try.ntmps20
  have hm := (Own.nil w).addNil 3
  go_wp2_with fail
  go_loopw [1, 2] (fun v u wr => ∃ (k : Nat) (ad : Option Addr) (c : Nat), k ≤ 3 ∧ v = .slice ad (2 * k) c ∧ u = .int .u8 ((k + 1 : Nat) : Int) ∧ Own w wr [] [(.slice ad (2 * k) c, 3, vs .i64 (LL.take (2 * k)))]) (fun _ u _ => 4 - (intOf u).toNat)
  case atStart => exact ⟨0, none, 0, by omega, rfl, rfl, hm⟩
  case round =>
    obtain ⟨k, ad, c, hk, rfl, rfl, hmr⟩ := hrel
    clear hm
    have hks : k = 0 ∨ k = 1 ∨ k = 2 ∨ k = 3 := by omega
    rcases hks with rfl | rfl | rfl | rfl
    · have T : Hid (vs .i64 (LL.take (2 * 0)) ++ vs .i64 [73728, 100] = vs .i64 (LL.take (2 * (0 + 1)))) := rfl
      clear hk
      go_wp2_with (first
        | (go_at_call 9; have _t := hmr; refine (need_any 65536 2 1 _ rfl rfl).mono ?_; rintro e w1 ⟨rfl, hb1⟩; rw [N1.out]; have hm1 := hmr.call hb1; clear hmr)
        | (go_at_call 9; have _t := hm1; refine (need_any 100 1 1 _ rfl rfl).mono ?_; rintro e w2 ⟨rfl, hb2⟩; rw [M1.out]; have hm2 := hm1.call hb2; clear hm1)
        | (refine wpList_lit2_o hm2 rfl rfl rfl rfl ?_; intro w3 g3 hm3; clear hm2)
        | (refine wpList_append_o 1 hm3 rfl rfl HE.out rfl rfl rfl (Src.of_owned (hm3.get 0 rfl)) (cells_ok _) (by simp [length_vs, LL]) (by simp [length_vs, LL]) ?_; intro ad4 c4 w4 hm4; simp only [List.set] at hm4; rw [T.out] at hm4; clear hm3))
      go_roundw
      case rel => exact ⟨0 + 1, ad4, c4, by omega, rfl, rfl, hm4.dropSl⟩
      case measure => simp [intOf]
    · have T : Hid (vs .i64 (LL.take (2 * 1)) ++ vs .i64 [131072, 100] = vs .i64 (LL.take (2 * (1 + 1)))) := rfl
      clear hk
      go_wp2_with (first
        | (go_at_call 9; have _t := hmr; refine (need_any 65536 2 2 _ rfl rfl).mono ?_; rintro e w1 ⟨rfl, hb1⟩; rw [N2.out]; have hm1 := hmr.call hb1; clear hmr)
        | (go_at_call 9; have _t := hm1; refine (need_any 100 1 2 _ rfl rfl).mono ?_; rintro e w2 ⟨rfl, hb2⟩; rw [M2.out]; have hm2 := hm1.call hb2; clear hm1)
        | (refine wpList_lit2_o hm2 rfl rfl rfl rfl ?_; intro w3 g3 hm3; clear hm2)
        | (refine wpList_append_o 1 hm3 rfl rfl HE.out rfl rfl rfl (Src.of_owned (hm3.get 0 rfl)) (cells_ok _) (by simp [length_vs, LL]) (by simp [length_vs, LL]) ?_; intro ad4 c4 w4 hm4; simp only [List.set] at hm4; rw [T.out] at hm4; clear hm3))
      go_roundw
      case rel => exact ⟨1 + 1, ad4, c4, by omega, rfl, rfl, hm4.dropSl⟩
      case measure => simp [intOf]
    · have T : Hid (vs .i64 (LL.take (2 * 2)) ++ vs .i64 [327684, 604] = vs .i64 (LL.take (2 * (2 + 1)))) := rfl
      clear hk
      go_wp2_with (first
        | (go_at_call 9; have _t := hmr; refine (need_any 65536 2 3 _ rfl rfl).mono ?_; rintro e w1 ⟨rfl, hb1⟩; rw [N3.out]; have hm1 := hmr.call hb1; clear hmr)
        | (go_at_call 9; have _t := hm1; refine (need_any 100 1 3 _ rfl rfl).mono ?_; rintro e w2 ⟨rfl, hb2⟩; rw [M3.out]; have hm2 := hm1.call hb2; clear hm1)
        | (refine wpList_lit2_o hm2 rfl rfl rfl rfl ?_; intro w3 g3 hm3; clear hm2)
        | (refine wpList_append_o 1 hm3 rfl rfl HE.out rfl rfl rfl (Src.of_owned (hm3.get 0 rfl)) (cells_ok _) (by simp [length_vs, LL]) (by simp [length_vs, LL]) ?_; intro ad4 c4 w4 hm4; simp only [List.set] at hm4; rw [T.out] at hm4; clear hm3))
      go_roundw
      case rel => exact ⟨2 + 1, ad4, c4, by omega, rfl, rfl, hm4.dropSl⟩
      case measure => simp [intOf]
    · clear hk
      have hmr' : Own w wr [] [(.slice ad LL.length c, 3, vs .i64 LL)] := hmr
      have HMR := Lib.hid hmr'
      clear hmr hmr'
      have hm1 := HMR.out
      clear HMR
      go_wp2_with (first
        | (go_at_call 7; have _t := hm1; refine (layout_any 100 1 3 _ rfl rfl).mono ?_; rintro e w2 ⟨⟨r2, rfl, ho2⟩, hb2⟩; rw [L1.out] at ho2; rw [L2.out]; obtain ⟨ax, cx, rfl⟩ := owns_shape ho2; have hm2 := hm1.callSl hb2 (len_own ho2); clear hm1)
        | (go_at_call 7; have _t := hm2; refine (layout_any 0 1 3 _ rfl rfl).mono ?_; rintro e w3 ⟨⟨r3, rfl, ho3⟩, hb3⟩; rw [L3.out]; have hm3 := hm2.call hb3; clear hm2)
        | (go_at_call 13; have _t := hm3; refine (pick_any 99 100 1 _ rfl).mono ?_; rintro e w4 ⟨rfl, hb4⟩; rw [P1.out]; have hm4 := hm3.call hb4; clear hm3)
        | (go_at_call 13; have _t := hm4; refine (pick_any 603 100 1 _ rfl).mono ?_; rintro e w5 ⟨rfl, hb5⟩; rw [P2.out]; have hm5 := hm4.call hb5; clear hm4)
        | (go_at_call 13; have _t := hm5; refine (pick_any 604 100 1 _ rfl).mono ?_; rintro e w6 ⟨rfl, hb6⟩; rw [P3.out]; have hm6 := hm5.call hb6; clear hm5)
        | (go_at_call 13; have _t := hm6; refine (pick_any 0 100 1 _ rfl).mono ?_; rintro e w7 ⟨rfl, hb7⟩; rw [P4.out]; have hm7 := hm6.call hb7; clear hm6)
        | (go_at_call 15; have _t := hm7; refine (dist_any 2 _).mono ?_; rintro e w8 ⟨rfl, hb8⟩; have hm8 := hm7.call hb8; clear hm7)
        | (go_at_call 15; have _t := hm8; refine (dist_any 3 _).mono ?_; rintro e w9 ⟨rfl, hb9⟩; have hm9 := hm8.call hb9; clear hm8)
        | (go_at_call 17; have _t := hm9; refine (bound_any 100 3 _ rfl).mono ?_; rintro e w10 ⟨rfl, hb10⟩; rw [B1.out, B2.out]; have hm10 := hm9.call hb10; clear hm9)
        | (go_at_call 11; have _t := hm10; refine (least_any 65536 2 _ rfl).mono ?_; rintro e w11 ⟨rfl, hb11⟩; rw [N1.out, E1.out]; have hm11 := hm10.call hb11; clear hm10)
        | (go_at_call 19; have _t := hm11; have hm12 := hm11.lit LL (by simp [maxLen, LL]); refine (ints_any _ _ LL LL _ ⟨_, _, rfl⟩ ⟨_, _, rfl⟩ (Src.of_owned (hm12.get 2 rfl)) (Src.of_owned (hm12.get 0 rfl)) (by decide)).mono ?_; rintro e w13 ⟨rfl, hb13⟩; rw [beq_self_eq_true]; have hm13 := hm12.call hb13; clear hm11 hm12)
        | (go_at_call 19; have _t := hm13; have hm14 := hm13.lit [100, 100, 404] (by simp [maxLen]); refine (ints_any _ _ [100, 100, 404] [100, 100, 404] _ ⟨_, _, rfl⟩ ⟨_, _, rfl⟩ (Src.of_owned (hm14.get 2 rfl)) (Src.of_owned (hm14.get 0 rfl)) (by decide)).mono ?_; rintro e w15 ⟨rfl, hb15⟩; rw [beq_self_eq_true]; have hm15 := hm14.call hb15; clear hm13 hm14))
      go_ret
      exact ⟨rfl, hm15.below⟩
end Go.Proofs.Ytihocpbkibfpmaa
