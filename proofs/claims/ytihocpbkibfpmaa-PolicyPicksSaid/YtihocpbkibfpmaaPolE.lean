/-
  The walks of policy.Least, Distance and Bound, of their references, and of the comparison of two lists.
-/
import Derived.Test.YtihocpbkibfpmaaPolD
namespace Go.Proofs.Ytihocpbkibfpmaa
open Go Go.RowKit

def dist (m : Int) : Int := if m = 1 then 8192 else if m = 2 then 1024 else 0
def dok (m : Int) : Bool := decide (m = 1 ∨ m = 2)
def dd (m : Int) : Int := if m = 1 then 8192 else if m = 2 then 1024 else 1
def bmin (n m : Int) : Int := if dd m < n then dd m else n
def bnd (n m : Int) : Int := if argOk n 2 m then 8300 + 15 * (n + 1) + (2 * n + 1) * bmin n m else 0
set_option maxRecDepth 100000 in
theorem least_any (n s : Int) (w : World) (hs : (Lit.int .u8 s).wf = true) : Calls Try.prog 11 #[.int .i64 n, .int .u8 s] w (NeedPost w (need n s 1) (er n s 1)) := by
  have HS := Lib.hid hs
  clear hs
  go_enter Try.func11, Try.ntmps11
  have hm := Own.nil w
  go_wp2_with (first
    | (go_at_call 9; refine (need_any n s 1 _ HS.out rfl).mono ?_; rintro e w1 ⟨rfl, hb1⟩; have hm1 := hm.call hb1; clear hm))
  go_ret2
  exact ⟨rfl, hm1.below⟩
set_option maxRecDepth 100000 in
theorem rleast_any (n s : Int) (w : World) : Calls Try.prog 12 #[.int .i64 n, .int .u8 s] w (NeedPost w (need n s 1) (er n s 1)) := by
  go_enter Try.func12, Try.ntmps12
  have hm := Own.nil w
  go_wp2_with (first
    | (go_at_call 10; refine (rneed_any n s 1 _ rfl).mono ?_; rintro e w1 ⟨rfl, hb1⟩; have hm1 := hm.call hb1; clear hm))
  go_ret2
  exact ⟨rfl, hm1.below⟩
set_option maxRecDepth 100000 in
theorem dist_any1 (w : World) : Calls Try.prog 15 #[.int .u8 1] w fun x w' => x = .returned (.tuple #[.int .i64 8192, .bool true]) ∧ Below w.heap.size w w' := by
  go_enter Try.func15, Try.ntmps15
  have hm := Own.nil w
  go_wp2_with fail
  go_ret2
  exact ⟨rfl, hm.below⟩
set_option maxRecDepth 100000 in
theorem dist_any2 (w : World) : Calls Try.prog 15 #[.int .u8 2] w fun x w' => x = .returned (.tuple #[.int .i64 1024, .bool true]) ∧ Below w.heap.size w w' := by
  go_enter Try.func15, Try.ntmps15
  have hm := Own.nil w
  go_wp2_with fail
  go_ret2
  exact ⟨rfl, hm.below⟩
set_option maxRecDepth 100000 in
theorem dist_any3 (m : Int) (w : World) (h1 : ¬ m = 1) (h2 : ¬ m = 2) : Calls Try.prog 15 #[.int .u8 m] w fun x w' => x = .returned (.tuple #[.int .i64 0, .bool false]) ∧ Below w.heap.size w w' := by
  have b1 : decide (m = 1) = false := decide_eq_false h1
  have b2 : decide (m = 2) = false := decide_eq_false h2
  have b3 : (m == 1) = false := by simpa using h1
  have b4 : (m == 2) = false := by simpa using h2
  go_enter Try.func15, Try.ntmps15
  have hm := Own.nil w
  go_wp2_with fail
  go_ret2
  exact ⟨rfl, hm.below⟩
theorem dist_any (m : Int) (w : World) : Calls Try.prog 15 #[.int .u8 m] w fun x w' => x = .returned (.tuple #[.int .i64 (dist m), .bool (dok m)]) ∧ Below w.heap.size w w' := by
  by_cases h1 : m = 1
  · subst h1; exact dist_any1 w
  by_cases h2 : m = 2
  · subst h2; exact dist_any2 w
  have e1 : dist m = 0 := by rw [dist, if_neg h1, if_neg h2]
  have e2 : dok m = false := decide_eq_false (by omega)
  rw [e1, e2]
  exact dist_any3 m w h1 h2
set_option maxRecDepth 100000 in
theorem rdist_any1 (w : World) : Calls Try.prog 16 #[.int .u8 1] w fun x w' => x = .returned (.tuple #[.int .i64 8192, .bool true]) ∧ Below w.heap.size w w' := by
  go_enter Try.func16, Try.ntmps16
  have hm := Own.nil w
  go_wp2_with fail
  go_ret2
  exact ⟨rfl, hm.below⟩
set_option maxRecDepth 100000 in
theorem rdist_any2 (w : World) : Calls Try.prog 16 #[.int .u8 2] w fun x w' => x = .returned (.tuple #[.int .i64 1024, .bool true]) ∧ Below w.heap.size w w' := by
  go_enter Try.func16, Try.ntmps16
  have hm := Own.nil w
  go_wp2_with fail
  go_ret2
  exact ⟨rfl, hm.below⟩
set_option maxRecDepth 100000 in
theorem rdist_any3 (m : Int) (w : World) (h1 : ¬ m = 1) (h2 : ¬ m = 2) : Calls Try.prog 16 #[.int .u8 m] w fun x w' => x = .returned (.tuple #[.int .i64 0, .bool false]) ∧ Below w.heap.size w w' := by
  have b1 : decide (m = 1) = false := decide_eq_false h1
  have b2 : decide (m = 2) = false := decide_eq_false h2
  have b3 : (m == 1) = false := by simpa using h1
  have b4 : (m == 2) = false := by simpa using h2
  go_enter Try.func16, Try.ntmps16
  have hm := Own.nil w
  go_wp2_with fail
  go_ret2
  exact ⟨rfl, hm.below⟩
theorem rdist_any (m : Int) (w : World) : Calls Try.prog 16 #[.int .u8 m] w fun x w' => x = .returned (.tuple #[.int .i64 (dist m), .bool (dok m)]) ∧ Below w.heap.size w w' := by
  by_cases h1 : m = 1
  · subst h1; exact rdist_any1 w
  by_cases h2 : m = 2
  · subst h2; exact rdist_any2 w
  have e1 : dist m = 0 := by rw [dist, if_neg h1, if_neg h2]
  have e2 : dok m = false := decide_eq_false (by omega)
  rw [e1, e2]
  exact rdist_any3 m w h1 h2
theorem sq_bound {n d : Int} (h1 : 1 ≤ n) (h2 : n ≤ d) (hd : d ≤ 8192) : 0 ≤ (2 * n + 1) * n ∧ (2 * n + 1) * n ≤ 16385 * 8192 := by
  have a : (2 * n + 1) * n ≤ 16385 * n := Int.mul_le_mul_of_nonneg_right (by omega) (by omega)
  have b : 0 ≤ (2 * n + 1) * n := Int.mul_nonneg (by omega) (by omega)
  omega
set_option maxRecDepth 100000 in
theorem bound_no (n m : Int) (w : World) (hm : (Lit.int .u8 m).wf = true) (he : er n 2 m = 2) : Calls Try.prog 17 #[.int .i64 n, .int .u8 m] w (NeedPost w 0 2) := by
  have HM := Lib.hid hm
  have HE := Lib.hid he
  clear hm he
  go_enter Try.func17, Try.ntmps17
  have hm := Own.nil w
  go_wp2_with (first
    | (go_at_call 7; refine (layout_any n 2 m _ rfl HM.out).mono ?_; rintro e w1 ⟨⟨r1, rfl, ho1⟩, hb1⟩; rw [HE.out]; have hm1 := hm.call hb1; clear hm))
  go_ret2
  exact ⟨rfl, hm1.below⟩
set_option maxRecDepth 100000 in
theorem bound_1lo (n : Int) (w : World) (h1 : 1 ≤ n) (h2 : n ≤ 65536) (h3 : ¬ 8192 < n) : Calls Try.prog 17 #[.int .i64 n, .int .u8 1] w (NeedPost w (8300 + 15 * (n + 1) + (2 * n + 1) * n) 0) := by
  have HE : Hid (er n 2 1 = 0) := by show er n 2 1 = 0; rw [er, if_pos ⟨h1, h2, by omega, by omega⟩]
  have hq := sq_bound h1 (show n ≤ 8192 by omega) (by omega)
  have hw1 : IntKind.i64.wrap ((2 * n + 1) * n) = (2 * n + 1) * n := IntWalk.i64_in _ (by omega)
  have hw2 : IntKind.i64.wrap (8300 + 15 * (n + 1) + (2 * n + 1) * n) = 8300 + 15 * (n + 1) + (2 * n + 1) * n := IntWalk.i64_in _ (by omega)
  clear hq
  go_enter Try.func17, Try.ntmps17
  have hm := Own.nil w
  go_wp2_with (first
    | (go_at_call 7; refine (layout_any n 2 1 _ rfl rfl).mono ?_; rintro e w1 ⟨⟨r1, rfl, ho1⟩, hb1⟩; rw [HE.out]; have hm1 := hm.call hb1; clear hm)
    | (go_at_call 15; refine (dist_any1 _).mono ?_; rintro e w2 ⟨rfl, hb2⟩; have hm2 := hm1.call hb2; clear hm1))
  go_ret2
  exact ⟨rfl, hm2.below⟩
set_option maxRecDepth 100000 in
theorem bound_1hi (n : Int) (w : World) (h1 : 1 ≤ n) (h2 : n ≤ 65536) (h3 : 8192 < n) : Calls Try.prog 17 #[.int .i64 n, .int .u8 1] w (NeedPost w (8300 + 15 * (n + 1) + (2 * n + 1) * 8192) 0) := by
  have HE : Hid (er n 2 1 = 0) := by show er n 2 1 = 0; rw [er, if_pos ⟨h1, h2, by omega, by omega⟩]
  go_enter Try.func17, Try.ntmps17
  have hm := Own.nil w
  go_wp2_with (first
    | (go_at_call 7; refine (layout_any n 2 1 _ rfl rfl).mono ?_; rintro e w1 ⟨⟨r1, rfl, ho1⟩, hb1⟩; rw [HE.out]; have hm1 := hm.call hb1; clear hm)
    | (go_at_call 15; refine (dist_any1 _).mono ?_; rintro e w2 ⟨rfl, hb2⟩; have hm2 := hm1.call hb2; clear hm1))
  go_ret2
  exact ⟨rfl, hm2.below⟩
set_option maxRecDepth 100000 in
theorem bound_2lo (n : Int) (w : World) (h1 : 1 ≤ n) (h2 : n ≤ 65536) (h3 : ¬ 1024 < n) : Calls Try.prog 17 #[.int .i64 n, .int .u8 2] w (NeedPost w (8300 + 15 * (n + 1) + (2 * n + 1) * n) 0) := by
  have HE : Hid (er n 2 2 = 0) := by show er n 2 2 = 0; rw [er, if_pos ⟨h1, h2, by omega, by omega⟩]
  have hq := sq_bound h1 (show n ≤ 1024 by omega) (by omega)
  have hw1 : IntKind.i64.wrap ((2 * n + 1) * n) = (2 * n + 1) * n := IntWalk.i64_in _ (by omega)
  have hw2 : IntKind.i64.wrap (8300 + 15 * (n + 1) + (2 * n + 1) * n) = 8300 + 15 * (n + 1) + (2 * n + 1) * n := IntWalk.i64_in _ (by omega)
  clear hq
  go_enter Try.func17, Try.ntmps17
  have hm := Own.nil w
  go_wp2_with (first
    | (go_at_call 7; refine (layout_any n 2 2 _ rfl rfl).mono ?_; rintro e w1 ⟨⟨r1, rfl, ho1⟩, hb1⟩; rw [HE.out]; have hm1 := hm.call hb1; clear hm)
    | (go_at_call 15; refine (dist_any2 _).mono ?_; rintro e w2 ⟨rfl, hb2⟩; have hm2 := hm1.call hb2; clear hm1))
  go_ret2
  exact ⟨rfl, hm2.below⟩
set_option maxRecDepth 100000 in
theorem bound_2hi (n : Int) (w : World) (h1 : 1 ≤ n) (h2 : n ≤ 65536) (h3 : 1024 < n) : Calls Try.prog 17 #[.int .i64 n, .int .u8 2] w (NeedPost w (8300 + 15 * (n + 1) + (2 * n + 1) * 1024) 0) := by
  have HE : Hid (er n 2 2 = 0) := by show er n 2 2 = 0; rw [er, if_pos ⟨h1, h2, by omega, by omega⟩]
  go_enter Try.func17, Try.ntmps17
  have hm := Own.nil w
  go_wp2_with (first
    | (go_at_call 7; refine (layout_any n 2 2 _ rfl rfl).mono ?_; rintro e w1 ⟨⟨r1, rfl, ho1⟩, hb1⟩; rw [HE.out]; have hm1 := hm.call hb1; clear hm)
    | (go_at_call 15; refine (dist_any2 _).mono ?_; rintro e w2 ⟨rfl, hb2⟩; have hm2 := hm1.call hb2; clear hm1))
  go_ret2
  exact ⟨rfl, hm2.below⟩
set_option maxRecDepth 100000 in
theorem bound_3lo (n : Int) (w : World) (h1 : 1 ≤ n) (h2 : n ≤ 65536) (h3 : ¬ 1 < n) : Calls Try.prog 17 #[.int .i64 n, .int .u8 3] w (NeedPost w (8300 + 15 * (n + 1) + (2 * n + 1) * n) 0) := by
  have HE : Hid (er n 2 3 = 0) := by show er n 2 3 = 0; rw [er, if_pos ⟨h1, h2, by omega, by omega⟩]
  have hq := sq_bound h1 (show n ≤ 1 by omega) (by omega)
  have hw1 : IntKind.i64.wrap ((2 * n + 1) * n) = (2 * n + 1) * n := IntWalk.i64_in _ (by omega)
  have hw2 : IntKind.i64.wrap (8300 + 15 * (n + 1) + (2 * n + 1) * n) = 8300 + 15 * (n + 1) + (2 * n + 1) * n := IntWalk.i64_in _ (by omega)
  clear hq
  go_enter Try.func17, Try.ntmps17
  have hm := Own.nil w
  go_wp2_with (first
    | (go_at_call 7; refine (layout_any n 2 3 _ rfl rfl).mono ?_; rintro e w1 ⟨⟨r1, rfl, ho1⟩, hb1⟩; rw [HE.out]; have hm1 := hm.call hb1; clear hm)
    | (go_at_call 15; refine (dist_any3 3 _ (by omega) (by omega)).mono ?_; rintro e w2 ⟨rfl, hb2⟩; have hm2 := hm1.call hb2; clear hm1))
  go_ret2
  exact ⟨rfl, hm2.below⟩
set_option maxRecDepth 100000 in
theorem bound_3hi (n : Int) (w : World) (h1 : 1 ≤ n) (h2 : n ≤ 65536) (h3 : 1 < n) : Calls Try.prog 17 #[.int .i64 n, .int .u8 3] w (NeedPost w (8300 + 15 * (n + 1) + (2 * n + 1)) 0) := by
  have HE : Hid (er n 2 3 = 0) := by show er n 2 3 = 0; rw [er, if_pos ⟨h1, h2, by omega, by omega⟩]
  go_enter Try.func17, Try.ntmps17
  have hm := Own.nil w
  go_wp2_with (first
    | (go_at_call 7; refine (layout_any n 2 3 _ rfl rfl).mono ?_; rintro e w1 ⟨⟨r1, rfl, ho1⟩, hb1⟩; rw [HE.out]; have hm1 := hm.call hb1; clear hm)
    | (go_at_call 15; refine (dist_any3 3 _ (by omega) (by omega)).mono ?_; rintro e w2 ⟨rfl, hb2⟩; have hm2 := hm1.call hb2; clear hm1))
  go_ret2
  exact ⟨rfl, hm2.below⟩
theorem bound_any (n m : Int) (w : World) (hm : (Lit.int .u8 m).wf = true) : Calls Try.prog 17 #[.int .i64 n, .int .u8 m] w (NeedPost w (bnd n m) (er n 2 m)) := by
  by_cases ha : argOk n 2 m
  · have he : er n 2 m = 0 := by rw [er, if_pos ha]
    rw [he, bnd, if_pos ha, bmin]
    obtain ⟨h1, h2, _, rfl | rfl | rfl⟩ := ha
    · split
      · exact bound_1hi n w h1 h2 (by assumption)
      · exact bound_1lo n w h1 h2 (by assumption)
    · split
      · exact bound_2hi n w h1 h2 (by assumption)
      · exact bound_2lo n w h1 h2 (by assumption)
    · split
      · show Calls _ _ _ _ (NeedPost w (8300 + 15 * (n + 1) + (2 * n + 1) * 1) 0)
        rw [Int.mul_one]
        exact bound_3hi n w h1 h2 (by assumption)
      · exact bound_3lo n w h1 h2 (by assumption)
  · have he : er n 2 m = 2 := by rw [er, if_neg ha]
    rw [he, bnd, if_neg ha]
    exact bound_no n m w hm he
set_option maxRecDepth 100000 in
theorem rbound_no (n m : Int) (w : World) (hm : (Lit.int .u8 m).wf = true) (he : er n 2 m = 2) : Calls Try.prog 18 #[.int .i64 n, .int .u8 m] w (NeedPost w 0 2) := by
  have HM := Lib.hid hm
  have HE := Lib.hid he
  clear hm he
  go_enter Try.func18, Try.ntmps18
  have hm := Own.nil w
  go_wp2_with (first
    | (go_at_call 8; refine (rlayout_any n 2 m _ HM.out).mono ?_; rintro e w1 ⟨⟨r1, rfl, ho1⟩, hb1⟩; rw [HE.out]; have hm1 := hm.call hb1; clear hm))
  go_ret2
  exact ⟨rfl, hm1.below⟩
set_option maxRecDepth 100000 in
theorem rbound_1lo (n : Int) (w : World) (h1 : 1 ≤ n) (h2 : n ≤ 65536) (h3 : ¬ 8192 < n) : Calls Try.prog 18 #[.int .i64 n, .int .u8 1] w (NeedPost w (8300 + 15 * (n + 1) + (2 * n + 1) * n) 0) := by
  have HE : Hid (er n 2 1 = 0) := by show er n 2 1 = 0; rw [er, if_pos ⟨h1, h2, by omega, by omega⟩]
  have hq := sq_bound h1 (show n ≤ 8192 by omega) (by omega)
  have hw1 : IntKind.i64.wrap ((2 * n + 1) * n) = (2 * n + 1) * n := IntWalk.i64_in _ (by omega)
  have hw2 : IntKind.i64.wrap (8300 + 15 * (n + 1) + (2 * n + 1) * n) = 8300 + 15 * (n + 1) + (2 * n + 1) * n := IntWalk.i64_in _ (by omega)
  clear hq
  go_enter Try.func18, Try.ntmps18
  have hm := Own.nil w
  go_wp2_with (first
    | (go_at_call 8; refine (rlayout_any n 2 1 _ rfl).mono ?_; rintro e w1 ⟨⟨r1, rfl, ho1⟩, hb1⟩; rw [HE.out]; have hm1 := hm.call hb1; clear hm)
    | (go_at_call 16; refine (rdist_any1 _).mono ?_; rintro e w2 ⟨rfl, hb2⟩; have hm2 := hm1.call hb2; clear hm1))
  go_ret2
  exact ⟨rfl, hm2.below⟩
set_option maxRecDepth 100000 in
theorem rbound_1hi (n : Int) (w : World) (h1 : 1 ≤ n) (h2 : n ≤ 65536) (h3 : 8192 < n) : Calls Try.prog 18 #[.int .i64 n, .int .u8 1] w (NeedPost w (8300 + 15 * (n + 1) + (2 * n + 1) * 8192) 0) := by
  have HE : Hid (er n 2 1 = 0) := by show er n 2 1 = 0; rw [er, if_pos ⟨h1, h2, by omega, by omega⟩]
  go_enter Try.func18, Try.ntmps18
  have hm := Own.nil w
  go_wp2_with (first
    | (go_at_call 8; refine (rlayout_any n 2 1 _ rfl).mono ?_; rintro e w1 ⟨⟨r1, rfl, ho1⟩, hb1⟩; rw [HE.out]; have hm1 := hm.call hb1; clear hm)
    | (go_at_call 16; refine (rdist_any1 _).mono ?_; rintro e w2 ⟨rfl, hb2⟩; have hm2 := hm1.call hb2; clear hm1))
  go_ret2
  exact ⟨rfl, hm2.below⟩
set_option maxRecDepth 100000 in
theorem rbound_2lo (n : Int) (w : World) (h1 : 1 ≤ n) (h2 : n ≤ 65536) (h3 : ¬ 1024 < n) : Calls Try.prog 18 #[.int .i64 n, .int .u8 2] w (NeedPost w (8300 + 15 * (n + 1) + (2 * n + 1) * n) 0) := by
  have HE : Hid (er n 2 2 = 0) := by show er n 2 2 = 0; rw [er, if_pos ⟨h1, h2, by omega, by omega⟩]
  have hq := sq_bound h1 (show n ≤ 1024 by omega) (by omega)
  have hw1 : IntKind.i64.wrap ((2 * n + 1) * n) = (2 * n + 1) * n := IntWalk.i64_in _ (by omega)
  have hw2 : IntKind.i64.wrap (8300 + 15 * (n + 1) + (2 * n + 1) * n) = 8300 + 15 * (n + 1) + (2 * n + 1) * n := IntWalk.i64_in _ (by omega)
  clear hq
  go_enter Try.func18, Try.ntmps18
  have hm := Own.nil w
  go_wp2_with (first
    | (go_at_call 8; refine (rlayout_any n 2 2 _ rfl).mono ?_; rintro e w1 ⟨⟨r1, rfl, ho1⟩, hb1⟩; rw [HE.out]; have hm1 := hm.call hb1; clear hm)
    | (go_at_call 16; refine (rdist_any2 _).mono ?_; rintro e w2 ⟨rfl, hb2⟩; have hm2 := hm1.call hb2; clear hm1))
  go_ret2
  exact ⟨rfl, hm2.below⟩
set_option maxRecDepth 100000 in
theorem rbound_2hi (n : Int) (w : World) (h1 : 1 ≤ n) (h2 : n ≤ 65536) (h3 : 1024 < n) : Calls Try.prog 18 #[.int .i64 n, .int .u8 2] w (NeedPost w (8300 + 15 * (n + 1) + (2 * n + 1) * 1024) 0) := by
  have HE : Hid (er n 2 2 = 0) := by show er n 2 2 = 0; rw [er, if_pos ⟨h1, h2, by omega, by omega⟩]
  go_enter Try.func18, Try.ntmps18
  have hm := Own.nil w
  go_wp2_with (first
    | (go_at_call 8; refine (rlayout_any n 2 2 _ rfl).mono ?_; rintro e w1 ⟨⟨r1, rfl, ho1⟩, hb1⟩; rw [HE.out]; have hm1 := hm.call hb1; clear hm)
    | (go_at_call 16; refine (rdist_any2 _).mono ?_; rintro e w2 ⟨rfl, hb2⟩; have hm2 := hm1.call hb2; clear hm1))
  go_ret2
  exact ⟨rfl, hm2.below⟩
set_option maxRecDepth 100000 in
theorem rbound_3lo (n : Int) (w : World) (h1 : 1 ≤ n) (h2 : n ≤ 65536) (h3 : ¬ 1 < n) : Calls Try.prog 18 #[.int .i64 n, .int .u8 3] w (NeedPost w (8300 + 15 * (n + 1) + (2 * n + 1) * n) 0) := by
  have HE : Hid (er n 2 3 = 0) := by show er n 2 3 = 0; rw [er, if_pos ⟨h1, h2, by omega, by omega⟩]
  have hq := sq_bound h1 (show n ≤ 1 by omega) (by omega)
  have hw1 : IntKind.i64.wrap ((2 * n + 1) * n) = (2 * n + 1) * n := IntWalk.i64_in _ (by omega)
  have hw2 : IntKind.i64.wrap (8300 + 15 * (n + 1) + (2 * n + 1) * n) = 8300 + 15 * (n + 1) + (2 * n + 1) * n := IntWalk.i64_in _ (by omega)
  clear hq
  go_enter Try.func18, Try.ntmps18
  have hm := Own.nil w
  go_wp2_with (first
    | (go_at_call 8; refine (rlayout_any n 2 3 _ rfl).mono ?_; rintro e w1 ⟨⟨r1, rfl, ho1⟩, hb1⟩; rw [HE.out]; have hm1 := hm.call hb1; clear hm)
    | (go_at_call 16; refine (rdist_any3 3 _ (by omega) (by omega)).mono ?_; rintro e w2 ⟨rfl, hb2⟩; have hm2 := hm1.call hb2; clear hm1))
  go_ret2
  exact ⟨rfl, hm2.below⟩
set_option maxRecDepth 100000 in
theorem rbound_3hi (n : Int) (w : World) (h1 : 1 ≤ n) (h2 : n ≤ 65536) (h3 : 1 < n) : Calls Try.prog 18 #[.int .i64 n, .int .u8 3] w (NeedPost w (8300 + 15 * (n + 1) + (2 * n + 1)) 0) := by
  have HE : Hid (er n 2 3 = 0) := by show er n 2 3 = 0; rw [er, if_pos ⟨h1, h2, by omega, by omega⟩]
  go_enter Try.func18, Try.ntmps18
  have hm := Own.nil w
  go_wp2_with (first
    | (go_at_call 8; refine (rlayout_any n 2 3 _ rfl).mono ?_; rintro e w1 ⟨⟨r1, rfl, ho1⟩, hb1⟩; rw [HE.out]; have hm1 := hm.call hb1; clear hm)
    | (go_at_call 16; refine (rdist_any3 3 _ (by omega) (by omega)).mono ?_; rintro e w2 ⟨rfl, hb2⟩; have hm2 := hm1.call hb2; clear hm1))
  go_ret2
  exact ⟨rfl, hm2.below⟩
theorem rbound_any (n m : Int) (w : World) (hm : (Lit.int .u8 m).wf = true) : Calls Try.prog 18 #[.int .i64 n, .int .u8 m] w (NeedPost w (bnd n m) (er n 2 m)) := by
  by_cases ha : argOk n 2 m
  · have he : er n 2 m = 0 := by rw [er, if_pos ha]
    rw [he, bnd, if_pos ha, bmin]
    obtain ⟨h1, h2, _, rfl | rfl | rfl⟩ := ha
    · split
      · exact rbound_1hi n w h1 h2 (by assumption)
      · exact rbound_1lo n w h1 h2 (by assumption)
    · split
      · exact rbound_2hi n w h1 h2 (by assumption)
      · exact rbound_2lo n w h1 h2 (by assumption)
    · split
      · show Calls _ _ _ _ (NeedPost w (8300 + 15 * (n + 1) + (2 * n + 1) * 1) 0)
        rw [Int.mul_one]
        exact rbound_3hi n w h1 h2 (by assumption)
      · exact rbound_3lo n w h1 h2 (by assumption)
  · have he : er n 2 m = 2 := by rw [er, if_neg ha]
    rw [he, bnd, if_neg ha]
    exact rbound_no n m w hm he

set_option maxRecDepth 100000 in
set_option maxHeartbeats 1000000 in
/-- The comparison of two lists. -/
theorem ints_any (v u : Value) (l k : List Int) (w : World) (hv : ∃ a c, v = .slice a l.length c) (hu : ∃ a c, u = .slice a k.length c) (sv : Src w v (vs .i64 l)) (su : Src w u (vs .i64 k)) (hl : l.length ≤ 1000) : Calls Try.prog 19 #[v, u] w fun x w' => x = .returned (.bool (l == k)) ∧ Below w.heap.size w w' := by
  obtain ⟨a1, c1, rfl⟩ := hv
  obtain ⟨a2, c2, rfl⟩ := hu
  obtain ⟨i3, hE⟩ := el22
  have HE := Lib.hid hE
  have SV := Lib.hid sv
  have SU := Lib.hid su
  clear hE sv su
  by_cases hlen : l.length = k.length
  · rw [← hlen] at SU ⊢
    have HLEN := Lib.hid hlen
    clear hlen
    go_enter Try.func19, Try.ntmps19
    have hm := Own.nil w
    go_wp2_with fail
    go_loopw [5] (fun v wr => ∃ i : Nat, i ≤ l.length ∧ v = .int .i64 i ∧ l.take i = k.take i ∧ Own w wr [] []) (fun v _ => l.length - (intOf v).toNat)
    case atStart => exact ⟨0, by omega, rfl, rfl, hm⟩
    case round =>
      obtain ⟨i, hi, rfl, hpre, hmr⟩ := hrel
      clear hm
      have HP := Lib.hid hpre
      clear hpre
      by_cases hlt : i < l.length
      · have hlt2 : i < k.length := by have := HLEN.out; omega
        obtain ⟨A, rfl⟩ := Src.some SV.out hlt
        obtain ⟨B, rfl⟩ := Src.some SU.out hlt2
        have hA := (Src.at SV.out (get_vs .i64 l i hlt))
        have hB := (Src.at SU.out (get_vs .i64 k i hlt2))
        have gl : gi l i = l[i] := by simp [gi, List.getD_eq_getElem?_getD, List.getElem?_eq_getElem hlt]
        have gk : gi k i = k[i] := by simp [gi, List.getD_eq_getElem?_getD, List.getElem?_eq_getElem hlt2]
        have GL := Lib.hid gl
        have GK := Lib.hid gk
        clear gl gk
        by_cases hx : gi l i = gi k i
        · have HX : Hid (l.take (i + 1) = k.take (i + 1)) := by
            show l.take (i + 1) = k.take (i + 1)
            rw [List.take_succ_eq_append_getElem hlt, List.take_succ_eq_append_getElem hlt2, ← GL.out, ← GK.out, hx, HP.out]
          rw [hx] at hA
          go_wp2_with fail
          refine wp_region_ord [(0, true), (1, true), (2, true), (3, true), (4, true), (5, true), (6, true), (7, true), (8, true)] (fun W => Below w.heap.size w W) rfl (by kernel_rfl) rfl (by kernel_rfl) (fun _ _ d _ _ h => by cases d <;> exact h) (hmr.drawn (wr.drawn + 1)).below ?_
          have hm8 := hmr.drawn (wr.drawn + 1)
          generalize ({ wr with drawn := wr.drawn + 1 } : World) = w8 at hm8 ⊢
          refine ord_read_l rfl rfl (fun W hW => by go_simp; rfl) ?_
          simp only [Act.put, List.setIfInBounds_toArray, List.set_cons_zero, List.set_cons_succ]
          refine ord_read_l rfl rfl (fun W hW => by go_simp; rfl) ?_
          simp only [Act.put, List.setIfInBounds_toArray, List.set_cons_zero, List.set_cons_succ]
          refine ord_read_l rfl rfl (fun W hW => exec_indexAddr_sl rfl HE.out rfl rfl rfl hlt) ?_
          simp only [Act.put, List.setIfInBounds_toArray, List.set_cons_zero, List.set_cons_succ]
          refine ord_read_l rfl rfl (fun W hW => exec_loadaddr rfl rfl one3 ((hW.cell (block_lt_of_cell hA)).trans hA)) ?_
          simp only [Act.put, List.setIfInBounds_toArray, List.set_cons_zero, List.set_cons_succ]
          refine ord_read_l rfl rfl (fun W hW => by go_simp; rfl) ?_
          simp only [Act.put, List.setIfInBounds_toArray, List.set_cons_zero, List.set_cons_succ]
          refine ord_read_l rfl rfl (fun W hW => by go_simp; rfl) ?_
          simp only [Act.put, List.setIfInBounds_toArray, List.set_cons_zero, List.set_cons_succ]
          refine ord_read_l rfl rfl (fun W hW => exec_indexAddr_sl rfl HE.out rfl rfl rfl hlt) ?_
          simp only [Act.put, List.setIfInBounds_toArray, List.set_cons_zero, List.set_cons_succ]
          refine ord_read_l rfl rfl (fun W hW => exec_loadaddr rfl rfl one3 ((hW.cell (block_lt_of_cell hB)).trans hB)) ?_
          simp only [Act.put, List.setIfInBounds_toArray, List.set_cons_zero, List.set_cons_succ]
          refine ord_read_l rfl rfl (fun W hW => by go_simp; rfl) ?_
          simp only [Act.put, List.setIfInBounds_toArray, List.set_cons_zero, List.set_cons_succ]
          refine ord_nil ?_
          go_simp
          go_wp2
          go_roundw
          case rel => exact ⟨i + 1, by omega, by go_num, HX.out, hm8⟩
          case measure => simp [intOf]; omega
        · have HX : Hid ((l == k) = false) := by
            show (l == k) = false
            rw [beq_eq_false_iff_ne]
            rintro rfl
            exact hx rfl
          have e1 : (gi l i == gi k i) = false := by simpa using hx
          have e2 : decide (gi l i = gi k i) = false := decide_eq_false hx
          go_wp2_with fail
          refine wp_region_ord [(0, true), (1, true), (2, true), (3, true), (4, true), (5, true), (6, true), (7, true), (8, true)] (fun W => Below w.heap.size w W) rfl (by kernel_rfl) rfl (by kernel_rfl) (fun _ _ d _ _ h => by cases d <;> exact h) (hmr.drawn (wr.drawn + 1)).below ?_
          have hm8 := hmr.drawn (wr.drawn + 1)
          generalize ({ wr with drawn := wr.drawn + 1 } : World) = w8 at hm8 ⊢
          refine ord_read_l rfl rfl (fun W hW => by go_simp; rfl) ?_
          simp only [Act.put, List.setIfInBounds_toArray, List.set_cons_zero, List.set_cons_succ]
          refine ord_read_l rfl rfl (fun W hW => by go_simp; rfl) ?_
          simp only [Act.put, List.setIfInBounds_toArray, List.set_cons_zero, List.set_cons_succ]
          refine ord_read_l rfl rfl (fun W hW => exec_indexAddr_sl rfl HE.out rfl rfl rfl hlt) ?_
          simp only [Act.put, List.setIfInBounds_toArray, List.set_cons_zero, List.set_cons_succ]
          refine ord_read_l rfl rfl (fun W hW => exec_loadaddr rfl rfl one3 ((hW.cell (block_lt_of_cell hA)).trans hA)) ?_
          simp only [Act.put, List.setIfInBounds_toArray, List.set_cons_zero, List.set_cons_succ]
          refine ord_read_l rfl rfl (fun W hW => by go_simp; rfl) ?_
          simp only [Act.put, List.setIfInBounds_toArray, List.set_cons_zero, List.set_cons_succ]
          refine ord_read_l rfl rfl (fun W hW => by go_simp; rfl) ?_
          simp only [Act.put, List.setIfInBounds_toArray, List.set_cons_zero, List.set_cons_succ]
          refine ord_read_l rfl rfl (fun W hW => exec_indexAddr_sl rfl HE.out rfl rfl rfl hlt) ?_
          simp only [Act.put, List.setIfInBounds_toArray, List.set_cons_zero, List.set_cons_succ]
          refine ord_read_l rfl rfl (fun W hW => exec_loadaddr rfl rfl one3 ((hW.cell (block_lt_of_cell hB)).trans hB)) ?_
          simp only [Act.put, List.setIfInBounds_toArray, List.set_cons_zero, List.set_cons_succ]
          refine ord_read_l rfl rfl (fun W hW => by go_simp; rfl) ?_
          simp only [Act.put, List.setIfInBounds_toArray, List.set_cons_zero, List.set_cons_succ]
          refine ord_nil ?_
          go_simp
          go_wp2
          go_ret
          exact ⟨by rw [HX.out]; rfl, hm8.below⟩
      · obtain rfl : i = l.length := by omega
        have HX : Hid ((l == k) = true) := by
          show (l == k) = true
          have := HP.out
          rw [HLEN.out, List.take_length, ← HLEN.out, List.take_length] at this
          rw [this]
          exact beq_self_eq_true k
        go_wp2_with fail
        go_ret
        exact ⟨by rw [HX.out]; rfl, hmr.below⟩
  · have hn1 : ((l.length : Int) == (k.length : Int)) = false := by simpa [Int.natCast_inj] using hlen
    have hn2 : ¬ (l.length : Int) = (k.length : Int) := by omega
    have HX : Hid ((l == k) = false) := by
      show (l == k) = false
      rw [beq_eq_false_iff_ne]
      rintro rfl
      exact hlen rfl
    go_enter Try.func19, Try.ntmps19
    have hm := Own.nil w
    go_wp2_with fail
    go_ret
    exact ⟨by rw [HX.out]; rfl, hm.below⟩
end Go.Proofs.Ytihocpbkibfpmaa
