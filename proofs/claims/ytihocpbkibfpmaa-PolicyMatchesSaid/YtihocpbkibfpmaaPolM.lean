/-
  The walk of winepresslaw23.PolicyMatches.
-/
import Derived.Test.YtihocpbkibfpmaaPolW
namespace Go.Proofs.Ytihocpbkibfpmaa
open Go Go.RowKit

set_option maxRecDepth 100000 in
set_option maxHeartbeats 4000000 in
theorem matches23 (b n s m : Int) (w : World) (hs : (Lit.int .u8 s).wf = true) (hm : (Lit.int .u8 m).wf = true) : Calls Try.prog 3 #[.int .i64 b, .int .i64 n, .int .u8 s, .int .u8 m] w fun e w' => e = .returned (.bool true) ∧ Below w.heap.size w w' := by
  have C7 : Hid (∀ w, Calls Try.prog 7 #[.int .i64 n, .int .u8 s, .int .u8 m] w (LayPost w (lay n s m) (er n s m))) := fun w => layout_any n s m w hs hm
  have C8 : Hid (∀ w, Calls Try.prog 8 #[.int .i64 n, .int .u8 s, .int .u8 m] w (LayPost w (lay n s m) (er n s m))) := fun w => rlayout_any n s m w hm
  have C9 : Hid (∀ w, Calls Try.prog 9 #[.int .i64 n, .int .u8 s, .int .u8 m] w (NeedPost w (need n s m) (er n s m))) := fun w => need_any n s m w hs hm
  have C10 : Hid (∀ w, Calls Try.prog 10 #[.int .i64 n, .int .u8 s, .int .u8 m] w (NeedPost w (need n s m) (er n s m))) := fun w => rneed_any n s m w hm
  have C11 : Hid (∀ w, Calls Try.prog 11 #[.int .i64 n, .int .u8 s] w (NeedPost w (need n s 1) (er n s 1))) := fun w => least_any n s w hs
  have C12 : Hid (∀ w, Calls Try.prog 12 #[.int .i64 n, .int .u8 s] w (NeedPost w (need n s 1) (er n s 1))) := fun w => rleast_any n s w
  have C13 : Hid (∀ w, Calls Try.prog 13 #[.int .i64 b, .int .i64 n, .int .u8 s] w (PickPost w (pk b n s))) := fun w => pick_any b n s w hs
  have C14 : Hid (∀ w, Calls Try.prog 14 #[.int .i64 b, .int .i64 n, .int .u8 s] w (PickPost w (pk b n s))) := fun w => rpick_any b n s w
  have C15 : Hid (∀ w, Calls Try.prog 15 #[.int .u8 m] w fun x w' => x = .returned (.tuple #[.int .i64 (dist m), .bool (dok m)]) ∧ Below w.heap.size w w') := fun w => dist_any m w
  have C16 : Hid (∀ w, Calls Try.prog 16 #[.int .u8 m] w fun x w' => x = .returned (.tuple #[.int .i64 (dist m), .bool (dok m)]) ∧ Below w.heap.size w w') := fun w => rdist_any m w
  have C17 : Hid (∀ w, Calls Try.prog 17 #[.int .i64 n, .int .u8 m] w (NeedPost w (bnd n m) (er n 2 m))) := fun w => bound_any n m w hm
  have C18 : Hid (∀ w, Calls Try.prog 18 #[.int .i64 n, .int .u8 m] w (NeedPost w (bnd n m) (er n 2 m))) := fun w => rbound_any n m w hm
  have HL : Hid ((lay n s m).length ≤ 1000) := Nat.le_trans (lay_sane n s m).1 (by decide)
  clear hs hm
  generalize lay n s m = l at *
  generalize er n s m = e1 at *
  generalize er n s 1 = e2 at *
  generalize er n 2 m = e3 at *
  generalize need n s m = n1 at *
  generalize need n s 1 = n2 at *
  generalize pk b n s = p at *
  generalize dist m = d at *
  generalize dok m = o at *
  generalize bnd n m = q at *
  obtain ⟨p1, p2⟩ := p
  go_enter Try.func3, Try.ntmps3
  have hm := Own.nil w
  go_wp2_with (first
    | (go_at_call 7; have _t := hm; refine (C7.out _).mono ?_; rintro e w1 ⟨⟨r1, rfl, ho1⟩, hb1⟩; obtain ⟨a1, c1, rfl⟩ := owns_shape ho1; have hm1 := hm.callSl hb1 (len_own ho1); clear hm)
    | (go_at_call 8; have _t := hm1; refine (C8.out _).mono ?_; rintro e w2 ⟨⟨r2, rfl, ho2⟩, hb2⟩; obtain ⟨a2, c2, rfl⟩ := owns_shape ho2; have hm2 := hm1.callSl hb2 (len_own ho2); clear hm1)
    | (go_at_call 9; have _t := hm2; refine (C9.out _).mono ?_; rintro e w3 ⟨rfl, hb3⟩; have hm3 := hm2.call hb3; clear hm2)
    | (go_at_call 10; have _t := hm3; refine (C10.out _).mono ?_; rintro e w4 ⟨rfl, hb4⟩; have hm4 := hm3.call hb4; clear hm3)
    | (go_at_call 11; have _t := hm4; refine (C11.out _).mono ?_; rintro e w5 ⟨rfl, hb5⟩; have hm5 := hm4.call hb5; clear hm4)
    | (go_at_call 12; have _t := hm5; refine (C12.out _).mono ?_; rintro e w6 ⟨rfl, hb6⟩; have hm6 := hm5.call hb6; clear hm5)
    | (go_at_call 13; have _t := hm6; refine (C13.out _).mono ?_; rintro e w7 ⟨rfl, hb7⟩; have hm7 := hm6.call hb7; clear hm6)
    | (go_at_call 14; have _t := hm7; refine (C14.out _).mono ?_; rintro e w8 ⟨rfl, hb8⟩; have hm8 := hm7.call hb8; clear hm7)
    | (go_at_call 15; have _t := hm8; refine (C15.out _).mono ?_; rintro e w9 ⟨rfl, hb9⟩; have hm9 := hm8.call hb9; clear hm8)
    | (go_at_call 16; have _t := hm9; refine (C16.out _).mono ?_; rintro e w10 ⟨rfl, hb10⟩; have hm10 := hm9.call hb10; clear hm9)
    | (go_at_call 17; have _t := hm10; refine (C17.out _).mono ?_; rintro e w11 ⟨rfl, hb11⟩; have hm11 := hm10.call hb11; clear hm10)
    | (go_at_call 18; have _t := hm11; refine (C18.out _).mono ?_; rintro e w12 ⟨rfl, hb12⟩; have hm12 := hm11.call hb12; clear hm11)
    | (go_at_call 19; have _t := hm12; refine (ints_any _ _ l l _ ⟨_, _, rfl⟩ ⟨_, _, rfl⟩ (Src.of_owned (hm12.get 1 rfl)) (Src.of_owned (hm12.get 0 rfl)) HL.out).mono ?_; rintro e w13 ⟨rfl, hb13⟩; rw [beq_self_eq_true]; have hm13 := hm12.call hb13; clear hm12)
    | (go_at_call 20; have _t := hm13; refine (wakes23 _).mono ?_; rintro e w14 ⟨rfl, hb14⟩; have hm14 := hm13.call hb14; clear hm13))
  go_ret
  exact ⟨rfl, hm14.below⟩
end Go.Proofs.Ytihocpbkibfpmaa
