/-
  The walks of policy.Pick and of the reference's Pick.
-/
import Derived.Test.YtihocpbkibfpmaaPolE
namespace Go.Proofs.Ytihocpbkibfpmaa
open Go Go.RowKit

/-- The greatest mode of at most k that fits. -/
def pkd (b n s : Int) : Nat → Int × Int
  | 0 => (0, 230)
  | k + 1 => if need n s ((k + 1 : Nat) : Int) ≤ b then (((k + 1 : Nat) : Int), 0) else pkd b n s k
def bdOk (b : Int) : Prop := 1 ≤ b ∧ b ≤ 1048576
instance (b : Int) : Decidable (bdOk b) := by unfold bdOk; infer_instance
def pk (b n s : Int) : Int × Int := if argOk n s 1 ∧ bdOk b then pkd b n s 3 else (0, 2)
def PickPost (w : World) (p : Int × Int) (x : Ending) (w' : World) : Prop := x = .returned (.tuple #[.int .u8 p.1, .int .i64 p.2]) ∧ Below w.heap.size w w'
theorem wf_small (k : Nat) (h : k ≤ 3) : (Lit.int .u8 (k : Int)).wf = true := by
  simp [Lit.wf, IntKind.min, IntKind.max, IntKind.signed, IntKind.bits]
  omega
set_option maxRecDepth 100000 in
theorem pick_no (b n s : Int) (w : World) (hs : (Lit.int .u8 s).wf = true) (he : er n s 1 = 2) : Calls Try.prog 13 #[.int .i64 b, .int .i64 n, .int .u8 s] w (PickPost w (0, 2)) := by
  have HS := Lib.hid hs
  clear hs
  have HE := Lib.hid he
  clear he
  go_enter Try.func13, Try.ntmps13
  have hm := Own.nil w
  go_wp2_with (first
    | (go_at_call 11; refine (least_any n s _ HS.out).mono ?_; rintro e w1 ⟨rfl, hb1⟩; rw [HE.out]; have hm1 := hm.call hb1; clear hm))
  go_ret2
  exact ⟨rfl, hm1.below⟩
set_option maxRecDepth 100000 in
theorem pick_lo (b n s : Int) (w : World) (hs : (Lit.int .u8 s).wf = true) (he : er n s 1 = 0) (hb : b < 1) : Calls Try.prog 13 #[.int .i64 b, .int .i64 n, .int .u8 s] w (PickPost w (0, 2)) := by
  have HS := Lib.hid hs
  clear hs
  have HE := Lib.hid he
  clear he
  go_enter Try.func13, Try.ntmps13
  have hm := Own.nil w
  go_wp2_with (first
    | (go_at_call 11; refine (least_any n s _ HS.out).mono ?_; rintro e w1 ⟨rfl, hb1⟩; rw [HE.out]; have hm1 := hm.call hb1; clear hm))
  go_ret2
  exact ⟨rfl, hm1.below⟩
set_option maxRecDepth 100000 in
theorem pick_hi (b n s : Int) (w : World) (hs : (Lit.int .u8 s).wf = true) (he : er n s 1 = 0) (hb : 1048576 < b) : Calls Try.prog 13 #[.int .i64 b, .int .i64 n, .int .u8 s] w (PickPost w (0, 2)) := by
  have HS := Lib.hid hs
  clear hs
  have HE := Lib.hid he
  clear he
  have hb2 : ¬ b < 1 := by omega
  go_enter Try.func13, Try.ntmps13
  have hm := Own.nil w
  go_wp2_with (first
    | (go_at_call 11; refine (least_any n s _ HS.out).mono ?_; rintro e w1 ⟨rfl, hb1⟩; rw [HE.out]; have hm1 := hm.call hb1; clear hm))
  go_ret2
  exact ⟨rfl, hm1.below⟩
set_option maxRecDepth 100000 in
theorem rpick_no (b n s : Int) (w : World) (he : er n s 1 = 2) : Calls Try.prog 14 #[.int .i64 b, .int .i64 n, .int .u8 s] w (PickPost w (0, 2)) := by
  have HE := Lib.hid he
  clear he
  go_enter Try.func14, Try.ntmps14
  have hm := Own.nil w
  go_wp2_with (first
    | (go_at_call 12; refine (rleast_any n s _).mono ?_; rintro e w1 ⟨rfl, hb1⟩; rw [HE.out]; have hm1 := hm.call hb1; clear hm))
  go_ret2
  exact ⟨rfl, hm1.below⟩
set_option maxRecDepth 100000 in
theorem rpick_lo (b n s : Int) (w : World) (he : er n s 1 = 0) (hb : b < 1) : Calls Try.prog 14 #[.int .i64 b, .int .i64 n, .int .u8 s] w (PickPost w (0, 2)) := by
  have HE := Lib.hid he
  clear he
  go_enter Try.func14, Try.ntmps14
  have hm := Own.nil w
  go_wp2_with (first
    | (go_at_call 12; refine (rleast_any n s _).mono ?_; rintro e w1 ⟨rfl, hb1⟩; rw [HE.out]; have hm1 := hm.call hb1; clear hm))
  go_ret2
  exact ⟨rfl, hm1.below⟩
set_option maxRecDepth 100000 in
theorem rpick_hi (b n s : Int) (w : World) (he : er n s 1 = 0) (hb : 1048576 < b) : Calls Try.prog 14 #[.int .i64 b, .int .i64 n, .int .u8 s] w (PickPost w (0, 2)) := by
  have HE := Lib.hid he
  clear he
  have hb2 : ¬ b < 1 := by omega
  go_enter Try.func14, Try.ntmps14
  have hm := Own.nil w
  go_wp2_with (first
    | (go_at_call 12; refine (rleast_any n s _).mono ?_; rintro e w1 ⟨rfl, hb1⟩; rw [HE.out]; have hm1 := hm.call hb1; clear hm))
  go_ret2
  exact ⟨rfl, hm1.below⟩
set_option maxRecDepth 100000 in
set_option maxHeartbeats 1000000 in
theorem pick_in (b n s : Int) (w : World) (hs : (Lit.int .u8 s).wf = true) (he : er n s 1 = 0) (h1 : 1 ≤ b) (h2 : b ≤ 1048576) : Calls Try.prog 13 #[.int .i64 b, .int .i64 n, .int .u8 s] w (PickPost w (pkd b n s 3)) := by
  have HS := Lib.hid hs
  have HE := Lib.hid he
  clear hs he
  have hb1 : ¬ b < 1 := by omega
  have hb2 : ¬ 1048576 < b := by omega
  go_enter Try.func13, Try.ntmps13
  have hm := Own.nil w
  go_wp2_with (first
    | (go_at_call 11; refine (least_any n s _ HS.out).mono ?_; rintro e w1 ⟨rfl, hb1⟩; rw [HE.out]; have hm1 := hm.call hb1; clear hm))
  go_loopw [6] (fun v wr => ∃ k : Nat, k ≤ 3 ∧ v = .int .u8 k ∧ pkd b n s 3 = pkd b n s k ∧ Own w wr [] []) (fun v _ => (intOf v).toNat)
  case atStart => exact ⟨3, by omega, rfl, rfl, hm1⟩
  case round =>
    obtain ⟨k, hk, rfl, hp, hmr⟩ := hrel
    clear hm1
    have HP := Lib.hid hp
    clear hp
    cases k with
    | zero =>
      go_wp2_with fail
      go_ret2
      exact ⟨by rw [HP.out]; rfl, hmr.below⟩
    | succ k =>
      have HK := Lib.hid (wf_small (k + 1) hk)
      have c1 : (0 : Int) < ((k + 1 : Nat) : Int) := by omega
      have c2 : IntKind.u8.wrap (((k + 1 : Nat) : Int) - 1) = (k : Int) := by
        have : k = 0 ∨ k = 1 ∨ k = 2 := by omega
        rcases this with rfl | rfl | rfl <;> rfl
      have HD : Hid (pkd b n s (k + 1) = if need n s ((k + 1 : Nat) : Int) ≤ b then (((k + 1 : Nat) : Int), 0) else pkd b n s k) := rfl
      generalize hq : ((k + 1 : Nat) : Int) = q at *
      generalize hN : need n s q = N at *
      have HN := Lib.hid hN
      clear hN
      by_cases hfit : N ≤ b
      · rw [if_pos hfit] at HD
        go_wp2_with (first
          | (go_at_call 9; refine (need_any n s q _ HS.out HK.out).mono ?_; rintro e w2 ⟨rfl, hb2⟩; rw [HN.out]; have hm2 := hmr.call hb2; clear hmr))
        go_ret2
        exact ⟨by rw [HP.out, HD.out]; rfl, hm2.below⟩
      · rw [if_neg hfit] at HD
        have c3 : decide (N ≤ b) = false := decide_eq_false hfit
        go_wp2_with (first
          | (go_at_call 9; refine (need_any n s q _ HS.out HK.out).mono ?_; rintro e w2 ⟨rfl, hb2⟩; rw [HN.out]; have hm2 := hmr.call hb2; clear hmr))
        go_roundw
        case rel => exact ⟨k, by omega, by go_num, by rw [HP.out, HD.out], hm2⟩
        case measure => simp [intOf]; omega
/-- The greatest mode of at most k that fits, or 1. -/
def bu (b n s : Int) : Nat → Int
  | 0 => 1
  | k + 1 => if need n s ((k + 1 : Nat) : Int) ≤ b then ((k + 1 : Nat) : Int) else bu b n s k
theorem bu_pkd {b n s : Int} (h : need n s 1 ≤ b) : pkd b n s 3 = (bu b n s 3, 0) := by
  have h' : need n s ((0 + 1 : Nat) : Int) ≤ b := h
  simp only [pkd, bu]
  split
  · rfl
  split
  · rfl
  rfl
theorem pkd_none {b n s : Int} (h : b < need n s 1) (h12 : need n s 1 ≤ need n s 2) (h23 : need n s 2 ≤ need n s 3) : pkd b n s 3 = (0, 230) := by
  have e3 : ¬ need n s ((2 + 1 : Nat) : Int) ≤ b := by show ¬ need n s 3 ≤ b; omega
  have e2 : ¬ need n s ((1 + 1 : Nat) : Int) ≤ b := by show ¬ need n s 2 ≤ b; omega
  have e1 : ¬ need n s ((0 + 1 : Nat) : Int) ≤ b := by show ¬ need n s 1 ≤ b; omega
  simp only [pkd]
  rw [if_neg e3, if_neg e2, if_neg e1]
set_option maxRecDepth 100000 in
theorem rpick_out (b n s : Int) (w : World) (he : er n s 1 = 0) (h1 : 1 ≤ b) (h2 : b ≤ 1048576) (h3 : b < need n s 1) : Calls Try.prog 14 #[.int .i64 b, .int .i64 n, .int .u8 s] w (PickPost w (0, 230)) := by
  have HE := Lib.hid he
  clear he
  have hb1 : ¬ b < 1 := by omega
  have hb2 : ¬ 1048576 < b := by omega
  generalize hN : need n s 1 = N at *
  have HN := Lib.hid hN
  clear hN
  go_enter Try.func14, Try.ntmps14
  have hm := Own.nil w
  go_wp2_with (first
    | (go_at_call 12; refine (rleast_any n s _).mono ?_; rintro e w1 ⟨rfl, hb1⟩; rw [HE.out, HN.out]; have hm1 := hm.call hb1; clear hm))
  go_ret2
  exact ⟨rfl, hm1.below⟩
set_option maxRecDepth 100000 in
set_option maxHeartbeats 1000000 in
theorem rpick_in (b n s : Int) (w : World) (he : er n s 1 = 0) (h1 : 1 ≤ b) (h2 : b ≤ 1048576) (h3 : need n s 1 ≤ b) : Calls Try.prog 14 #[.int .i64 b, .int .i64 n, .int .u8 s] w (PickPost w (bu b n s 3, 0)) := by
  have HE := Lib.hid he
  clear he
  have hb1 : ¬ b < 1 := by omega
  have hb2 : ¬ 1048576 < b := by omega
  have hb3 : ¬ b < need n s 1 := by omega
  generalize hN : need n s 1 = N at *
  have HN := Lib.hid hN
  clear hN h3
  go_enter Try.func14, Try.ntmps14
  have hm := Own.nil w
  go_wp2_with (first
    | (go_at_call 12; refine (rleast_any n s _).mono ?_; rintro e w1 ⟨rfl, hb1⟩; rw [HE.out, HN.out]; have hm1 := hm.call hb1; clear hm))
  go_loopw [10, 11] (fun v u wr => ∃ k : Nat, k ≤ 3 ∧ v = .int .u8 (bu b n s k) ∧ u = .int .u8 ((k + 1 : Nat) : Int) ∧ Own w wr [] []) (fun _ u _ => 4 - (intOf u).toNat)
  case atStart => exact ⟨0, by omega, rfl, rfl, hm1⟩
  case round =>
    obtain ⟨k, hk, rfl, rfl, hmr⟩ := hrel
    clear hm1
    by_cases hk3 : k = 3
    · subst hk3
      go_wp2_with fail
      go_ret2
      exact ⟨rfl, hmr.below⟩
    · have HK := Lib.hid (wf_small (k + 1) (by omega))
      have c1 : ((k + 1 : Nat) : Int) ≤ 3 := by omega
      have c2 : IntKind.u8.wrap (((k + 1 : Nat) : Int) + 1) = ((k + 1 + 1 : Nat) : Int) := by
        have : k = 0 ∨ k = 1 ∨ k = 2 := by omega
        rcases this with rfl | rfl | rfl <;> rfl
      have HD : Hid (bu b n s (k + 1) = if need n s ((k + 1 : Nat) : Int) ≤ b then ((k + 1 : Nat) : Int) else bu b n s k) := rfl
      generalize hq2 : ((k + 1 + 1 : Nat) : Int) = q2 at *
      have HQ2 := Lib.hid hq2
      clear hq2
      generalize hq : ((k + 1 : Nat) : Int) = q at *
      have HQ := Lib.hid hq
      clear hq
      generalize hM : need n s q = M at *
      have HM := Lib.hid hM
      clear hM
      by_cases hfit : M ≤ b
      · rw [if_pos hfit] at HD
        go_wp2_with (first
          | (go_at_call 10; refine (rneed_any n s q _ HK.out).mono ?_; rintro e w2 ⟨rfl, hb2⟩; rw [HM.out]; have hm2 := hmr.call hb2; clear hmr))
        go_roundw
        case rel => exact ⟨k + 1, by omega, by rw [HD.out], by rw [HQ2.out], hm2⟩
        case measure => have := HQ.out; have := HQ2.out; simp [intOf]; omega
      · rw [if_neg hfit] at HD
        have c3 : decide (M ≤ b) = false := decide_eq_false hfit
        go_wp2_with (first
          | (go_at_call 10; refine (rneed_any n s q _ HK.out).mono ?_; rintro e w2 ⟨rfl, hb2⟩; rw [HM.out]; have hm2 := hmr.call hb2; clear hmr))
        go_roundw
        case rel => exact ⟨k + 1, by omega, by rw [HD.out], by rw [HQ2.out], hm2⟩
        case measure => have := HQ.out; have := HQ2.out; simp [intOf]; omega
theorem need_val {n s m : Int} (h : argOk n s m) : need n s m = if s = 1 then (if m = 3 then 2 * n + 4 * rowsOf n else n) else if m = 1 then n + 1024 * (n / 8192) else if m = 2 then n + 1024 * (n / 1024) else n + 4 * (n + 1) := by
  unfold need lay
  rw [if_pos h]
  unfold layE layD
  repeat' split
  all_goals simp only [List.sum_cons, List.sum_nil]
  all_goals omega
theorem need_mono {n s : Int} (h : argOk n s 1) : n ≤ need n s 1 ∧ need n s 1 ≤ need n s 2 ∧ need n s 2 ≤ need n s 3 ∧ need n s 3 ≤ 1048576 ∧ need n s 1 ≤ n + (n + 7) / 8 := by
  have a1 := h.1
  have a2 := h.2.1
  have a3 := h.2.2.1
  have h2 : argOk n s 2 := ⟨a1, a2, a3, by omega⟩
  have h3 : argOk n s 3 := ⟨a1, a2, a3, by omega⟩
  rw [need_val h, need_val h2, need_val h3]
  unfold rowsOf
  rcases a3 with rfl | rfl
  · simp only [if_true, show ¬ ((1 : Int) = 3) by omega, show ¬ ((2 : Int) = 3) by omega, if_false]
    split <;> omega
  · simp only [if_true, show ¬ ((2 : Int) = 1) by omega, show ¬ ((3 : Int) = 1) by omega, show ¬ ((3 : Int) = 2) by omega, if_false]
    omega
theorem er_ok {n s m : Int} (h : argOk n s m) : er n s m = 0 := if_pos h
theorem er_no {n s m : Int} (h : ¬ argOk n s m) : er n s m = 2 := if_neg h
theorem pick_any (b n s : Int) (w : World) (hs : (Lit.int .u8 s).wf = true) : Calls Try.prog 13 #[.int .i64 b, .int .i64 n, .int .u8 s] w (PickPost w (pk b n s)) := by
  by_cases ha : argOk n s 1
  · by_cases hb : bdOk b
    · rw [pk, if_pos ⟨ha, hb⟩]
      exact pick_in b n s w hs (er_ok ha) hb.1 hb.2
    · rw [pk, if_neg (fun h => hb h.2)]
      by_cases h1 : b < 1
      · exact pick_lo b n s w hs (er_ok ha) h1
      · exact pick_hi b n s w hs (er_ok ha) (by unfold bdOk at hb; omega)
  · rw [pk, if_neg (fun h => ha h.1)]
    exact pick_no b n s w hs (er_no ha)
theorem rpick_any (b n s : Int) (w : World) : Calls Try.prog 14 #[.int .i64 b, .int .i64 n, .int .u8 s] w (PickPost w (pk b n s)) := by
  by_cases ha : argOk n s 1
  · by_cases hb : bdOk b
    · rw [pk, if_pos ⟨ha, hb⟩]
      by_cases h3 : need n s 1 ≤ b
      · rw [bu_pkd h3]
        exact rpick_in b n s w (er_ok ha) hb.1 hb.2 h3
      · obtain ⟨_, m1, m2, _⟩ := need_mono ha
        rw [pkd_none (by omega) m1 m2]
        exact rpick_out b n s w (er_ok ha) hb.1 hb.2 (by omega)
    · rw [pk, if_neg (fun h => hb h.2)]
      by_cases h1 : b < 1
      · exact rpick_lo b n s w (er_ok ha) h1
      · exact rpick_hi b n s w (er_ok ha) (by unfold bdOk at hb; omega)
  · rw [pk, if_neg (fun h => ha h.1)]
    exact rpick_no b n s w (er_no ha)
end Go.Proofs.Ytihocpbkibfpmaa
