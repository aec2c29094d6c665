/-
  The walk of the laws' own examples (winepresslaw14.wakes): it returns true.
-/
import Derived.Test.YtaccjnekonmkoaaZrG
namespace Go.Proofs.Ytaccjnekonmkoaa
open Go Go.RowKit

theorem el84 : ∃ i, ElTy Try.prog 84 39 i (.slice none 0 0) 24 := ⟨_, Try.underlying84, rfl, rfl, rfl, rfl, rfl⟩
theorem get_J (l : List Int) (i : Nat) (hi : i < l.length) : ((vs .i64 l).toArray)[i]? = some (.int .i64 (gi l i)) := by
  rw [List.getElem?_toArray, get_vs .i64 l i hi]
theorem in64 {w : World} {g : Nat} {l : List Int} (h : RowIs w g (vs .i64 l).toArray) (c : Nat) : In .i64 w (.slice (some ⟨g, 0, none⟩) l.length c) l :=
  ⟨_, c, rfl, fun i hi => ⟨_, rfl, by rw [Addr.add_lit, Nat.zero_add, h.cell, get_J l i hi]⟩⟩
theorem src64 {w : World} {g : Nat} {l : List Int} (h : RowIs w g (vs .i64 l).toArray) (c : Nat) : Src w (.slice (some ⟨g, 0, none⟩) l.length c) (vs .i64 l) :=
  Src.of_row h 0 l.length c (vs .i64 l) (length_vs .i64 l) (fun j u hj => by rw [Nat.zero_add, List.getElem?_toArray, hj])
theorem in64_nil (w : World) : In .i64 w (.slice none 0 0) [] := ⟨none, 0, rfl, fun i hi => absurd hi (by simp)⟩
theorem at_row {w : World} {g : Nat} {cs : Array Value} (h : RowIs w g cs) (k : Nat) {v : Value} (e : cs[k]? = some v) : w.cell? ((⟨g, 0, none⟩ : Addr).add k) = some v := by
  rw [Addr.add_lit, Nat.zero_add, h.cell, e]

set_option maxRecDepth 100000 in
set_option maxHeartbeats 8000000 in
theorem wakes14 (w : World) : Calls Try.prog 33 #[] w fun e w' => e = .returned (.bool true) ∧ Below w.heap.size w w' := by
  have D0 : Hid (dgO 0 = []) := by show dgO 0 = _; decide +kernel
  have E0 : Hid (dgE 0 = 0) := by show dgE 0 = _; decide +kernel
  have N0 : Hid (numO [] = (0, 0)) := by show numO [] = _; decide +kernel
  have D1 : Hid (dgO 1 = [0]) := by show dgO 1 = _; decide +kernel
  have E1 : Hid (dgE 1 = 0) := by show dgE 1 = _; decide +kernel
  have N1 : Hid (numO [0] = (1, 0)) := by show numO [0] = _; decide +kernel
  have D2 : Hid (dgO 2 = [1]) := by show dgO 2 = _; decide +kernel
  have E2 : Hid (dgE 2 = 0) := by show dgE 2 = _; decide +kernel
  have N2 : Hid (numO [1] = (2, 0)) := by show numO [1] = _; decide +kernel
  have D3 : Hid (dgO 3 = [0, 0]) := by show dgO 3 = _; decide +kernel
  have E3 : Hid (dgE 3 = 0) := by show dgE 3 = _; decide +kernel
  have N3 : Hid (numO [0, 0] = (3, 0)) := by show numO [0, 0] = _; decide +kernel
  have D4 : Hid (dgO 4 = [1, 0]) := by show dgO 4 = _; decide +kernel
  have E4 : Hid (dgE 4 = 0) := by show dgE 4 = _; decide +kernel
  have N4 : Hid (numO [1, 0] = (4, 0)) := by show numO [1, 0] = _; decide +kernel
  have D5 : Hid (dgO 5 = [0, 1]) := by show dgO 5 = _; decide +kernel
  have E5 : Hid (dgE 5 = 0) := by show dgE 5 = _; decide +kernel
  have N5 : Hid (numO [0, 1] = (5, 0)) := by show numO [0, 1] = _; decide +kernel
  have D6 : Hid (dgO 6 = [1, 1]) := by show dgO 6 = _; decide +kernel
  have E6 : Hid (dgE 6 = 0) := by show dgE 6 = _; decide +kernel
  have N6 : Hid (numO [1, 1] = (6, 0)) := by show numO [1, 1] = _; decide +kernel
  have D7 : Hid (dgO 7 = [0, 0, 0]) := by show dgO 7 = _; decide +kernel
  have E7 : Hid (dgE 7 = 0) := by show dgE 7 = _; decide +kernel
  have N7 : Hid (numO [0, 0, 0] = (7, 0)) := by show numO [0, 0, 0] = _; decide +kernel
  have F1 : Hid (foldO [0, 0, 0, 5, 0] = ([0, 0, 6, 0], 0)) := by show foldO [0, 0, 0, 5, 0] = _; decide +kernel
  have F2 : Hid (foldO [256] = ([], 2)) := by show foldO [256] = _; decide +kernel
  have U1 : Hid (unfoldO 5 [0, 0, 6, 0] = ([0, 0, 0, 5, 0], 0)) := by show unfoldO 5 [0, 0, 6, 0] = _; decide +kernel
  have U2 : Hid (unfoldO 4 [0, 0, 6, 0] = ([], 2)) := by show unfoldO 4 [0, 0, 6, 0] = _; decide +kernel
  have DM : Hid (dgE (-1) = 2) := by show dgE (-1) = _; decide +kernel
  have NM : Hid (numO [2] = (0, 2)) := by show numO [2] = _; decide +kernel
  have AV : Hid (addV 3 2 1 = 11) := by show addV 3 2 1 = _; decide +kernel
  have AE : Hid (addE 3 2 1 = 0) := by show addE 3 2 1 = _; decide +kernel
  obtain ⟨i3, hE⟩ := el39
  have HE := Lib.hid hE
  obtain ⟨i4, hE4⟩ := el84
  have HE4 := Lib.hid hE4
  clear hE hE4
  go_enter Try.func33, Try.ntmps33
  go_wp2_with fail
  have hm0 := ((((((((Own.nil w).alloc #[.int .i64 0] 3).alloc #[.int .i64 1] 3).alloc #[.int .i64 0, .int .i64 0] 3).alloc #[.int .i64 1, .int .i64 0] 3).alloc #[.int .i64 0, .int .i64 1] 3).alloc #[.int .i64 1, .int .i64 1] 3).alloc #[.int .i64 0, .int .i64 0, .int .i64 0] 3).alloc #[.slice none 0 0, .slice (some ⟨w.heap.size, 0, none⟩) 1 1, .slice (some ⟨w.heap.size + 1, 0, none⟩) 1 1, .slice (some ⟨w.heap.size + 1 + 1, 0, none⟩) 2 2, .slice (some ⟨w.heap.size + 1 + 1 + 1, 0, none⟩) 2 2, .slice (some ⟨w.heap.size + 1 + 1 + 1 + 1, 0, none⟩) 2 2, .slice (some ⟨w.heap.size + 1 + 1 + 1 + 1 + 1, 0, none⟩) 2 2, .slice (some ⟨w.heap.size + 1 + 1 + 1 + 1 + 1 + 1, 0, none⟩) 3 3] 39
  simp only [World.size_alloc] at hm0
  generalize w.heap.size + 1 + 1 + 1 + 1 + 1 + 1 + 1 = b8 at *
  generalize w.heap.size + 1 + 1 + 1 + 1 + 1 + 1 = b7 at *
  generalize w.heap.size + 1 + 1 + 1 + 1 + 1 = b6 at *
  generalize w.heap.size + 1 + 1 + 1 + 1 = b5 at *
  generalize w.heap.size + 1 + 1 + 1 = b4 at *
  generalize w.heap.size + 1 + 1 = b3 at *
  generalize w.heap.size + 1 = b2 at *
  go_loopw [2] (fun u wr => ∃ k : Nat, k ≤ 8 ∧ u = .int .i64 k ∧ Own w wr [(b8, #[.slice none 0 0, .slice (some ⟨w.heap.size, 0, none⟩) 1 1, .slice (some ⟨b2, 0, none⟩) 1 1, .slice (some ⟨b3, 0, none⟩) 2 2, .slice (some ⟨b4, 0, none⟩) 2 2, .slice (some ⟨b5, 0, none⟩) 2 2, .slice (some ⟨b6, 0, none⟩) 2 2, .slice (some ⟨b7, 0, none⟩) 3 3]), (b7, #[.int .i64 0, .int .i64 0, .int .i64 0]), (b6, #[.int .i64 1, .int .i64 1]), (b5, #[.int .i64 0, .int .i64 1]), (b4, #[.int .i64 1, .int .i64 0]), (b3, #[.int .i64 0, .int .i64 0]), (b2, #[.int .i64 1]), (w.heap.size, #[.int .i64 0])] []) (fun u _ => 8 - (intOf u).toNat)
  case atStart => exact ⟨0, by omega, rfl, hm0⟩
  case round =>
    obtain ⟨k, hk, rfl, hmr⟩ := hrel
    clear hm0
    have hks : k = 0 ∨ k = 1 ∨ k = 2 ∨ k = 3 ∨ k = 4 ∨ k = 5 ∨ k = 6 ∨ k = 7 ∨ k = 8 := by omega
    rcases hks with rfl | rfl | rfl | rfl | rfl | rfl | rfl | rfl | rfl
    · clear hk
      go_wp2_with (first
        | (go_at_call 34; have _t := hmr; refine (digits_any 0 _).mono ?_; rintro e w1 ⟨⟨r1, rfl, ho1⟩, hb1⟩; rw [D0.out] at ho1; rw [E0.out]; obtain ⟨a1, c1, rfl⟩ := owns_shape0 ho1; have hm1 := hmr.callSl hb1 (by rw [length_vs]; exact ho1); clear hmr ho1)
        | (refine wpList_run rfl (exec_indexAddr_sl (k := 0) rfl HE4.out rfl rfl rfl (by decide)) ?_)
        | (refine wpList_run rfl (exec_loadaddr rfl rfl one39 (at_row (hm1.row 0 rfl) 0 rfl)) ?_)
        | (go_at_call 36; have _t := hm1; refine (number_any _ [] _ (in64_nil _) (by decide)).mono ?_; rintro e w2 ⟨rfl, hb2⟩; rw [N0.out]; have hm2 := hm1.call hb2; clear hm1)
        | (refine wpList_run rfl (exec_loadaddr rfl rfl one39 (at_row (hm2.row 0 rfl) 0 rfl)) ?_)
        | (go_at_call 40; have _t := hm2; refine (ints_any _ _ [] [] _ ⟨_, _, rfl⟩ ⟨none, 0, rfl⟩ (Src.of_owned (hm2.get 0 rfl)) (.inl ⟨rfl, rfl⟩) (by decide)).mono ?_; rintro e w3 ⟨rfl, hb3⟩; rw [beq_self_eq_true]; have hm3 := hm2.call hb3; clear hm2))
      go_roundw
      case rel => exact ⟨0 + 1, by omega, rfl, hm3.dropSl⟩
      case measure => simp [intOf]
    · clear hk
      go_wp2_with (first
        | (go_at_call 34; have _t := hmr; refine (digits_any 1 _).mono ?_; rintro e w1 ⟨⟨r1, rfl, ho1⟩, hb1⟩; rw [D1.out] at ho1; rw [E1.out]; obtain ⟨a1, c1, rfl⟩ := owns_shape0 ho1; have hm1 := hmr.callSl hb1 (by rw [length_vs]; exact ho1); clear hmr ho1)
        | (refine wpList_run rfl (exec_indexAddr_sl (k := 1) rfl HE4.out rfl rfl rfl (by decide)) ?_)
        | (refine wpList_run rfl (exec_loadaddr rfl rfl one39 (at_row (hm1.row 0 rfl) 1 rfl)) ?_)
        | (go_at_call 36; have _t := hm1; refine (number_any _ [0] _ (in64 (l := [0]) (hm1.row 7 rfl) 1) (by decide)).mono ?_; rintro e w2 ⟨rfl, hb2⟩; rw [N1.out]; have hm2 := hm1.call hb2; clear hm1)
        | (refine wpList_run rfl (exec_loadaddr rfl rfl one39 (at_row (hm2.row 0 rfl) 1 rfl)) ?_)
        | (go_at_call 40; have _t := hm2; refine (ints_any _ _ [0] [0] _ ⟨_, _, rfl⟩ ⟨_, _, rfl⟩ (Src.of_owned (hm2.get 0 rfl)) (src64 (l := [0]) (hm2.row 7 rfl) 1) (by decide)).mono ?_; rintro e w3 ⟨rfl, hb3⟩; rw [beq_self_eq_true]; have hm3 := hm2.call hb3; clear hm2))
      go_roundw
      case rel => exact ⟨1 + 1, by omega, rfl, hm3.dropSl⟩
      case measure => simp [intOf]
    · clear hk
      go_wp2_with (first
        | (go_at_call 34; have _t := hmr; refine (digits_any 2 _).mono ?_; rintro e w1 ⟨⟨r1, rfl, ho1⟩, hb1⟩; rw [D2.out] at ho1; rw [E2.out]; obtain ⟨a1, c1, rfl⟩ := owns_shape0 ho1; have hm1 := hmr.callSl hb1 (by rw [length_vs]; exact ho1); clear hmr ho1)
        | (refine wpList_run rfl (exec_indexAddr_sl (k := 2) rfl HE4.out rfl rfl rfl (by decide)) ?_)
        | (refine wpList_run rfl (exec_loadaddr rfl rfl one39 (at_row (hm1.row 0 rfl) 2 rfl)) ?_)
        | (go_at_call 36; have _t := hm1; refine (number_any _ [1] _ (in64 (l := [1]) (hm1.row 6 rfl) 1) (by decide)).mono ?_; rintro e w2 ⟨rfl, hb2⟩; rw [N2.out]; have hm2 := hm1.call hb2; clear hm1)
        | (refine wpList_run rfl (exec_loadaddr rfl rfl one39 (at_row (hm2.row 0 rfl) 2 rfl)) ?_)
        | (go_at_call 40; have _t := hm2; refine (ints_any _ _ [1] [1] _ ⟨_, _, rfl⟩ ⟨_, _, rfl⟩ (Src.of_owned (hm2.get 0 rfl)) (src64 (l := [1]) (hm2.row 6 rfl) 1) (by decide)).mono ?_; rintro e w3 ⟨rfl, hb3⟩; rw [beq_self_eq_true]; have hm3 := hm2.call hb3; clear hm2))
      go_roundw
      case rel => exact ⟨2 + 1, by omega, rfl, hm3.dropSl⟩
      case measure => simp [intOf]
    · clear hk
      go_wp2_with (first
        | (go_at_call 34; have _t := hmr; refine (digits_any 3 _).mono ?_; rintro e w1 ⟨⟨r1, rfl, ho1⟩, hb1⟩; rw [D3.out] at ho1; rw [E3.out]; obtain ⟨a1, c1, rfl⟩ := owns_shape0 ho1; have hm1 := hmr.callSl hb1 (by rw [length_vs]; exact ho1); clear hmr ho1)
        | (refine wpList_run rfl (exec_indexAddr_sl (k := 3) rfl HE4.out rfl rfl rfl (by decide)) ?_)
        | (refine wpList_run rfl (exec_loadaddr rfl rfl one39 (at_row (hm1.row 0 rfl) 3 rfl)) ?_)
        | (go_at_call 36; have _t := hm1; refine (number_any _ [0, 0] _ (in64 (l := [0, 0]) (hm1.row 5 rfl) 2) (by decide)).mono ?_; rintro e w2 ⟨rfl, hb2⟩; rw [N3.out]; have hm2 := hm1.call hb2; clear hm1)
        | (refine wpList_run rfl (exec_loadaddr rfl rfl one39 (at_row (hm2.row 0 rfl) 3 rfl)) ?_)
        | (go_at_call 40; have _t := hm2; refine (ints_any _ _ [0, 0] [0, 0] _ ⟨_, _, rfl⟩ ⟨_, _, rfl⟩ (Src.of_owned (hm2.get 0 rfl)) (src64 (l := [0, 0]) (hm2.row 5 rfl) 2) (by decide)).mono ?_; rintro e w3 ⟨rfl, hb3⟩; rw [beq_self_eq_true]; have hm3 := hm2.call hb3; clear hm2))
      go_roundw
      case rel => exact ⟨3 + 1, by omega, rfl, hm3.dropSl⟩
      case measure => simp [intOf]
    · clear hk
      go_wp2_with (first
        | (go_at_call 34; have _t := hmr; refine (digits_any 4 _).mono ?_; rintro e w1 ⟨⟨r1, rfl, ho1⟩, hb1⟩; rw [D4.out] at ho1; rw [E4.out]; obtain ⟨a1, c1, rfl⟩ := owns_shape0 ho1; have hm1 := hmr.callSl hb1 (by rw [length_vs]; exact ho1); clear hmr ho1)
        | (refine wpList_run rfl (exec_indexAddr_sl (k := 4) rfl HE4.out rfl rfl rfl (by decide)) ?_)
        | (refine wpList_run rfl (exec_loadaddr rfl rfl one39 (at_row (hm1.row 0 rfl) 4 rfl)) ?_)
        | (go_at_call 36; have _t := hm1; refine (number_any _ [1, 0] _ (in64 (l := [1, 0]) (hm1.row 4 rfl) 2) (by decide)).mono ?_; rintro e w2 ⟨rfl, hb2⟩; rw [N4.out]; have hm2 := hm1.call hb2; clear hm1)
        | (refine wpList_run rfl (exec_loadaddr rfl rfl one39 (at_row (hm2.row 0 rfl) 4 rfl)) ?_)
        | (go_at_call 40; have _t := hm2; refine (ints_any _ _ [1, 0] [1, 0] _ ⟨_, _, rfl⟩ ⟨_, _, rfl⟩ (Src.of_owned (hm2.get 0 rfl)) (src64 (l := [1, 0]) (hm2.row 4 rfl) 2) (by decide)).mono ?_; rintro e w3 ⟨rfl, hb3⟩; rw [beq_self_eq_true]; have hm3 := hm2.call hb3; clear hm2))
      go_roundw
      case rel => exact ⟨4 + 1, by omega, rfl, hm3.dropSl⟩
      case measure => simp [intOf]
    · clear hk
      go_wp2_with (first
        | (go_at_call 34; have _t := hmr; refine (digits_any 5 _).mono ?_; rintro e w1 ⟨⟨r1, rfl, ho1⟩, hb1⟩; rw [D5.out] at ho1; rw [E5.out]; obtain ⟨a1, c1, rfl⟩ := owns_shape0 ho1; have hm1 := hmr.callSl hb1 (by rw [length_vs]; exact ho1); clear hmr ho1)
        | (refine wpList_run rfl (exec_indexAddr_sl (k := 5) rfl HE4.out rfl rfl rfl (by decide)) ?_)
        | (refine wpList_run rfl (exec_loadaddr rfl rfl one39 (at_row (hm1.row 0 rfl) 5 rfl)) ?_)
        | (go_at_call 36; have _t := hm1; refine (number_any _ [0, 1] _ (in64 (l := [0, 1]) (hm1.row 3 rfl) 2) (by decide)).mono ?_; rintro e w2 ⟨rfl, hb2⟩; rw [N5.out]; have hm2 := hm1.call hb2; clear hm1)
        | (refine wpList_run rfl (exec_loadaddr rfl rfl one39 (at_row (hm2.row 0 rfl) 5 rfl)) ?_)
        | (go_at_call 40; have _t := hm2; refine (ints_any _ _ [0, 1] [0, 1] _ ⟨_, _, rfl⟩ ⟨_, _, rfl⟩ (Src.of_owned (hm2.get 0 rfl)) (src64 (l := [0, 1]) (hm2.row 3 rfl) 2) (by decide)).mono ?_; rintro e w3 ⟨rfl, hb3⟩; rw [beq_self_eq_true]; have hm3 := hm2.call hb3; clear hm2))
      go_roundw
      case rel => exact ⟨5 + 1, by omega, rfl, hm3.dropSl⟩
      case measure => simp [intOf]
    · clear hk
      go_wp2_with (first
        | (go_at_call 34; have _t := hmr; refine (digits_any 6 _).mono ?_; rintro e w1 ⟨⟨r1, rfl, ho1⟩, hb1⟩; rw [D6.out] at ho1; rw [E6.out]; obtain ⟨a1, c1, rfl⟩ := owns_shape0 ho1; have hm1 := hmr.callSl hb1 (by rw [length_vs]; exact ho1); clear hmr ho1)
        | (refine wpList_run rfl (exec_indexAddr_sl (k := 6) rfl HE4.out rfl rfl rfl (by decide)) ?_)
        | (refine wpList_run rfl (exec_loadaddr rfl rfl one39 (at_row (hm1.row 0 rfl) 6 rfl)) ?_)
        | (go_at_call 36; have _t := hm1; refine (number_any _ [1, 1] _ (in64 (l := [1, 1]) (hm1.row 2 rfl) 2) (by decide)).mono ?_; rintro e w2 ⟨rfl, hb2⟩; rw [N6.out]; have hm2 := hm1.call hb2; clear hm1)
        | (refine wpList_run rfl (exec_loadaddr rfl rfl one39 (at_row (hm2.row 0 rfl) 6 rfl)) ?_)
        | (go_at_call 40; have _t := hm2; refine (ints_any _ _ [1, 1] [1, 1] _ ⟨_, _, rfl⟩ ⟨_, _, rfl⟩ (Src.of_owned (hm2.get 0 rfl)) (src64 (l := [1, 1]) (hm2.row 2 rfl) 2) (by decide)).mono ?_; rintro e w3 ⟨rfl, hb3⟩; rw [beq_self_eq_true]; have hm3 := hm2.call hb3; clear hm2))
      go_roundw
      case rel => exact ⟨6 + 1, by omega, rfl, hm3.dropSl⟩
      case measure => simp [intOf]
    · clear hk
      go_wp2_with (first
        | (go_at_call 34; have _t := hmr; refine (digits_any 7 _).mono ?_; rintro e w1 ⟨⟨r1, rfl, ho1⟩, hb1⟩; rw [D7.out] at ho1; rw [E7.out]; obtain ⟨a1, c1, rfl⟩ := owns_shape0 ho1; have hm1 := hmr.callSl hb1 (by rw [length_vs]; exact ho1); clear hmr ho1)
        | (refine wpList_run rfl (exec_indexAddr_sl (k := 7) rfl HE4.out rfl rfl rfl (by decide)) ?_)
        | (refine wpList_run rfl (exec_loadaddr rfl rfl one39 (at_row (hm1.row 0 rfl) 7 rfl)) ?_)
        | (go_at_call 36; have _t := hm1; refine (number_any _ [0, 0, 0] _ (in64 (l := [0, 0, 0]) (hm1.row 1 rfl) 3) (by decide)).mono ?_; rintro e w2 ⟨rfl, hb2⟩; rw [N7.out]; have hm2 := hm1.call hb2; clear hm1)
        | (refine wpList_run rfl (exec_loadaddr rfl rfl one39 (at_row (hm2.row 0 rfl) 7 rfl)) ?_)
        | (go_at_call 40; have _t := hm2; refine (ints_any _ _ [0, 0, 0] [0, 0, 0] _ ⟨_, _, rfl⟩ ⟨_, _, rfl⟩ (Src.of_owned (hm2.get 0 rfl)) (src64 (l := [0, 0, 0]) (hm2.row 1 rfl) 3) (by decide)).mono ?_; rintro e w3 ⟨rfl, hb3⟩; rw [beq_self_eq_true]; have hm3 := hm2.call hb3; clear hm2))
      go_roundw
      case rel => exact ⟨7 + 1, by omega, rfl, hm3.dropSl⟩
      case measure => simp [intOf]
    · clear hk
      go_wp2_with (first
        | (go_at_call 41; have _t := hmr; have hm1 := hmr.alloc (vs .i64 [0, 0, 0, 5, 0]).toArray 3; refine (fold_any _ [0, 0, 0, 5, 0] _ (in64 (l := [0, 0, 0, 5, 0]) (hm1.row 0 rfl) 5) (by decide)).mono ?_; rintro e w2 ⟨⟨r2, rfl, ho2⟩, hb2⟩; rw [F1.out] at ho2; rw [F1.out]; obtain ⟨aF, cF, rfl⟩ := owns_shape0 ho2; have hm2 := hm1.callSl hb2 (by rw [length_vs]; exact ho2); clear hmr hm1)
        | (go_at_call 43; have _t := hm2; have hm3 := hm2.alloc (vs .i64 [0, 0, 6, 0]).toArray 3; refine (unfold_any 5 _ [0, 0, 6, 0] _ (in64 (l := [0, 0, 6, 0]) (hm3.row 0 rfl) 4) (by decide) (by omega) (by omega)).mono ?_; rintro e w4 ⟨⟨r4, rfl, ho4⟩, hb4⟩; rw [U1.out] at ho4; rw [U1.out]; obtain ⟨aU, cU, rfl⟩ := owns_shape0 ho4; have hm4 := hm3.callSl hb4 (by rw [length_vs]; exact ho4); clear hm2 hm3)
        | (go_at_call 43; have _t := hm4; have hm5 := hm4.alloc (vs .i64 [0, 0, 6, 0]).toArray 3; refine (unfold_any 4 _ [0, 0, 6, 0] _ (in64 (l := [0, 0, 6, 0]) (hm5.row 0 rfl) 4) (by decide) (by omega) (by omega)).mono ?_; rintro e w6 ⟨⟨r6, rfl, ho6⟩, hb6⟩; rw [U2.out]; have hm6 := hm5.call hb6; clear hm4 hm5)
        | (go_at_call 34; have _t := hm6; refine (digits_any (-1) _).mono ?_; rintro e w7 ⟨⟨r7, rfl, ho7⟩, hb7⟩; rw [DM.out]; have hm7 := hm6.call hb7; clear hm6)
        | (go_at_call 36; have _t := hm7; have hm8 := hm7.alloc (vs .i64 [2]).toArray 3; refine (number_any _ [2] _ (in64 (l := [2]) (hm8.row 0 rfl) 1) (by decide)).mono ?_; rintro e w9 ⟨rfl, hb9⟩; rw [NM.out]; have hm9 := hm8.call hb9; clear hm7 hm8)
        | (go_at_call 38; have _t := hm9; refine (add_any 3 2 1 _).mono ?_; rintro e w10 ⟨rfl, hb10⟩; rw [AV.out, AE.out]; have hm10 := hm9.call hb10; clear hm9)
        | (go_at_call 41; have _t := hm10; have hm11 := hm10.alloc (vs .i64 [256]).toArray 3; refine (fold_any _ [256] _ (in64 (l := [256]) (hm11.row 0 rfl) 1) (by decide)).mono ?_; rintro e w12 ⟨⟨r12, rfl, ho12⟩, hb12⟩; rw [F2.out]; have hm12 := hm11.call hb12; clear hm10 hm11)
        | (go_at_call 40; have _t := hm12; have hm13 := hm12.alloc (vs .i64 [0, 0, 6, 0]).toArray 3; refine (ints_any _ _ [0, 0, 6, 0] [0, 0, 6, 0] _ ⟨_, _, rfl⟩ ⟨_, _, rfl⟩ (Src.of_owned (hm13.get 1 rfl)) (src64 (l := [0, 0, 6, 0]) (hm13.row 0 rfl) 4) (by decide)).mono ?_; rintro e w14 ⟨rfl, hb14⟩; rw [beq_self_eq_true]; have hm14 := hm13.call hb14; clear hm12 hm13)
        | (go_at_call 40; have _t := hm14; have hm15 := hm14.alloc (vs .i64 [0, 0, 0, 5, 0]).toArray 3; refine (ints_any _ _ [0, 0, 0, 5, 0] [0, 0, 0, 5, 0] _ ⟨_, _, rfl⟩ ⟨_, _, rfl⟩ (Src.of_owned (hm15.get 0 rfl)) (src64 (l := [0, 0, 0, 5, 0]) (hm15.row 0 rfl) 5) (by decide)).mono ?_; rintro e w16 ⟨rfl, hb16⟩; rw [beq_self_eq_true]; have hm16 := hm15.call hb16; clear hm14 hm15))
      go_ret
      exact ⟨rfl, hm16.below⟩
end Go.Proofs.Ytaccjnekonmkoaa
