/-
  Part 19 of the proof.
-/
import Derived.Test.YtkpbhdhkdonghaaGreatV12
import Derived.Test.YtkpbhdhkdonghaaGreatV13
import Derived.Test.YtkpbhdhkdonghaaGreatV18
set_option linter.all false
namespace Go.Proofs.YtkpbhdhkdonghaaGreat
open Go Go.RowKit
def FL (pa : Value) (la : Int) (ln : Int) (rb : Int) (rm : Int) (ix : Int) (row : Int) (told : Int) (st : Int) : Array Value := ([pa, Value.int .i64 la, Value.int .i64 ln, Value.int .i64 rb, Value.int .i64 rm, Value.int .i64 ix, Value.int .i64 row, Value.int .i64 told, Value.int .i64 st]).toArray
theorem FL_size {pa : Value} {la : Int} {ln : Int} {rb : Int} {rm : Int} {ix : Int} {row : Int} {told : Int} {st : Int}  : (FL pa la ln rb rm ix row told st).size = 9 := by simp [FL, length_vs]
theorem FL_at_pa {pa : Value} {la : Int} {ln : Int} {rb : Int} {rm : Int} {ix : Int} {row : Int} {told : Int} {st : Int}  : (FL pa la ln rb rm ix row told st)[0]? = some (pa) := by
  rw [show FL pa la ln rb rm ix row told st = ([] ++ (([pa, Value.int .i64 la, Value.int .i64 ln, Value.int .i64 rb, Value.int .i64 rm, Value.int .i64 ix, Value.int .i64 row, Value.int .i64 told, Value.int .i64 st]) ++ [])).toArray by simp [FL, List.append_assoc]]
  exact get3 (P := []) (off := 0) (i := 0) (S := []) rfl rfl
theorem FL_put_pa {pa : Value} {la : Int} {ln : Int} {rb : Int} {rm : Int} {ix : Int} {row : Int} {told : Int} {st : Int}  (x : Value) : (FL pa la ln rb rm ix row told st).setIfInBounds 0 (x) = FL x la ln rb rm ix row told st := by
  rw [show FL pa la ln rb rm ix row told st = ([] ++ (([pa, Value.int .i64 la, Value.int .i64 ln, Value.int .i64 rb, Value.int .i64 rm, Value.int .i64 ix, Value.int .i64 row, Value.int .i64 told, Value.int .i64 st]) ++ [])).toArray by simp [FL, List.append_assoc]]
  have h := set3 (P := []) (off := 0) (i := 0) (S := []) rfl (show 0 < ([pa, Value.int .i64 la, Value.int .i64 ln, Value.int .i64 rb, Value.int .i64 rm, Value.int .i64 ix, Value.int .i64 row, Value.int .i64 told, Value.int .i64 st]).length by simp) (x)
  rw [h]
  simp [FL, List.append_assoc]
theorem FL_at_ln {pa : Value} {la : Int} {ln : Int} {rb : Int} {rm : Int} {ix : Int} {row : Int} {told : Int} {st : Int}  : (FL pa la ln rb rm ix row told st)[2]? = some (Value.int .i64 ln) := by
  rw [show FL pa la ln rb rm ix row told st = ([] ++ (([pa, Value.int .i64 la, Value.int .i64 ln, Value.int .i64 rb, Value.int .i64 rm, Value.int .i64 ix, Value.int .i64 row, Value.int .i64 told, Value.int .i64 st]) ++ [])).toArray by simp [FL, List.append_assoc]]
  exact get3 (P := []) (off := 0) (i := 2) (S := []) rfl rfl
theorem FL_at_ix {pa : Value} {la : Int} {ln : Int} {rb : Int} {rm : Int} {ix : Int} {row : Int} {told : Int} {st : Int}  : (FL pa la ln rb rm ix row told st)[5]? = some (Value.int .i64 ix) := by
  rw [show FL pa la ln rb rm ix row told st = ([] ++ (([pa, Value.int .i64 la, Value.int .i64 ln, Value.int .i64 rb, Value.int .i64 rm, Value.int .i64 ix, Value.int .i64 row, Value.int .i64 told, Value.int .i64 st]) ++ [])).toArray by simp [FL, List.append_assoc]]
  exact get3 (P := []) (off := 0) (i := 5) (S := []) rfl rfl
theorem FL_put_ix {pa : Value} {la : Int} {ln : Int} {rb : Int} {rm : Int} {ix : Int} {row : Int} {told : Int} {st : Int}  (x : Int) : (FL pa la ln rb rm ix row told st).setIfInBounds 5 (Value.int .i64 x) = FL pa la ln rb rm x row told st := by
  rw [show FL pa la ln rb rm ix row told st = ([] ++ (([pa, Value.int .i64 la, Value.int .i64 ln, Value.int .i64 rb, Value.int .i64 rm, Value.int .i64 ix, Value.int .i64 row, Value.int .i64 told, Value.int .i64 st]) ++ [])).toArray by simp [FL, List.append_assoc]]
  have h := set3 (P := []) (off := 0) (i := 5) (S := []) rfl (show 5 < ([pa, Value.int .i64 la, Value.int .i64 ln, Value.int .i64 rb, Value.int .i64 rm, Value.int .i64 ix, Value.int .i64 row, Value.int .i64 told, Value.int .i64 st]).length by simp) (Value.int .i64 x)
  rw [h]
  simp [FL, List.append_assoc]
theorem FL_at_row {pa : Value} {la : Int} {ln : Int} {rb : Int} {rm : Int} {ix : Int} {row : Int} {told : Int} {st : Int}  : (FL pa la ln rb rm ix row told st)[6]? = some (Value.int .i64 row) := by
  rw [show FL pa la ln rb rm ix row told st = ([] ++ (([pa, Value.int .i64 la, Value.int .i64 ln, Value.int .i64 rb, Value.int .i64 rm, Value.int .i64 ix, Value.int .i64 row, Value.int .i64 told, Value.int .i64 st]) ++ [])).toArray by simp [FL, List.append_assoc]]
  exact get3 (P := []) (off := 0) (i := 6) (S := []) rfl rfl
theorem FL_put_row {pa : Value} {la : Int} {ln : Int} {rb : Int} {rm : Int} {ix : Int} {row : Int} {told : Int} {st : Int}  (x : Int) : (FL pa la ln rb rm ix row told st).setIfInBounds 6 (Value.int .i64 x) = FL pa la ln rb rm ix x told st := by
  rw [show FL pa la ln rb rm ix row told st = ([] ++ (([pa, Value.int .i64 la, Value.int .i64 ln, Value.int .i64 rb, Value.int .i64 rm, Value.int .i64 ix, Value.int .i64 row, Value.int .i64 told, Value.int .i64 st]) ++ [])).toArray by simp [FL, List.append_assoc]]
  have h := set3 (P := []) (off := 0) (i := 6) (S := []) rfl (show 6 < ([pa, Value.int .i64 la, Value.int .i64 ln, Value.int .i64 rb, Value.int .i64 rm, Value.int .i64 ix, Value.int .i64 row, Value.int .i64 told, Value.int .i64 st]).length by simp) (Value.int .i64 x)
  rw [h]
  simp [FL, List.append_assoc]
theorem FL_lt_row {pa : Value} {la : Int} {ln : Int} {rb : Int} {rm : Int} {ix : Int} {row : Int} {told : Int} {st : Int}  : 6 < (FL pa la ln rb rm ix row told st).size := by rw [FL_size ]; omega
theorem FL_at_told {pa : Value} {la : Int} {ln : Int} {rb : Int} {rm : Int} {ix : Int} {row : Int} {told : Int} {st : Int}  : (FL pa la ln rb rm ix row told st)[7]? = some (Value.int .i64 told) := by
  rw [show FL pa la ln rb rm ix row told st = ([] ++ (([pa, Value.int .i64 la, Value.int .i64 ln, Value.int .i64 rb, Value.int .i64 rm, Value.int .i64 ix, Value.int .i64 row, Value.int .i64 told, Value.int .i64 st]) ++ [])).toArray by simp [FL, List.append_assoc]]
  exact get3 (P := []) (off := 0) (i := 7) (S := []) rfl rfl
theorem FL_put_told {pa : Value} {la : Int} {ln : Int} {rb : Int} {rm : Int} {ix : Int} {row : Int} {told : Int} {st : Int}  (x : Int) : (FL pa la ln rb rm ix row told st).setIfInBounds 7 (Value.int .i64 x) = FL pa la ln rb rm ix row x st := by
  rw [show FL pa la ln rb rm ix row told st = ([] ++ (([pa, Value.int .i64 la, Value.int .i64 ln, Value.int .i64 rb, Value.int .i64 rm, Value.int .i64 ix, Value.int .i64 row, Value.int .i64 told, Value.int .i64 st]) ++ [])).toArray by simp [FL, List.append_assoc]]
  have h := set3 (P := []) (off := 0) (i := 7) (S := []) rfl (show 7 < ([pa, Value.int .i64 la, Value.int .i64 ln, Value.int .i64 rb, Value.int .i64 rm, Value.int .i64 ix, Value.int .i64 row, Value.int .i64 told, Value.int .i64 st]).length by simp) (Value.int .i64 x)
  rw [h]
  simp [FL, List.append_assoc]
theorem FL_lt_told {pa : Value} {la : Int} {ln : Int} {rb : Int} {rm : Int} {ix : Int} {row : Int} {told : Int} {st : Int}  : 7 < (FL pa la ln rb rm ix row told st).size := by rw [FL_size ]; omega
theorem FL_at_st {pa : Value} {la : Int} {ln : Int} {rb : Int} {rm : Int} {ix : Int} {row : Int} {told : Int} {st : Int}  : (FL pa la ln rb rm ix row told st)[8]? = some (Value.int .i64 st) := by
  rw [show FL pa la ln rb rm ix row told st = ([] ++ (([pa, Value.int .i64 la, Value.int .i64 ln, Value.int .i64 rb, Value.int .i64 rm, Value.int .i64 ix, Value.int .i64 row, Value.int .i64 told, Value.int .i64 st]) ++ [])).toArray by simp [FL, List.append_assoc]]
  exact get3 (P := []) (off := 0) (i := 8) (S := []) rfl rfl
theorem FL_put_st {pa : Value} {la : Int} {ln : Int} {rb : Int} {rm : Int} {ix : Int} {row : Int} {told : Int} {st : Int}  (x : Int) : (FL pa la ln rb rm ix row told st).setIfInBounds 8 (Value.int .i64 x) = FL pa la ln rb rm ix row told x := by
  rw [show FL pa la ln rb rm ix row told st = ([] ++ (([pa, Value.int .i64 la, Value.int .i64 ln, Value.int .i64 rb, Value.int .i64 rm, Value.int .i64 ix, Value.int .i64 row, Value.int .i64 told, Value.int .i64 st]) ++ [])).toArray by simp [FL, List.append_assoc]]
  have h := set3 (P := []) (off := 0) (i := 8) (S := []) rfl (show 8 < ([pa, Value.int .i64 la, Value.int .i64 ln, Value.int .i64 rb, Value.int .i64 rm, Value.int .i64 ix, Value.int .i64 row, Value.int .i64 told, Value.int .i64 st]).length by simp) (Value.int .i64 x)
  rw [h]
  simp [FL, List.append_assoc]
theorem FL_lt_st {pa : Value} {la : Int} {ln : Int} {rb : Int} {rm : Int} {ix : Int} {row : Int} {told : Int} {st : Int}  : 8 < (FL pa la ln rb rm ix row told st).size := by rw [FL_size ]; omega
theorem FL_sp1 {pa : Value} {la ln rb rm ix row told st : Int} : (FL pa la ln rb rm ix row told st).extract 1 (1 + (SP la ln).size) = SP la ln := by
  show ([pa] ++ ([Value.int .i64 la, Value.int .i64 ln] ++ [Value.int .i64 rb, Value.int .i64 rm, Value.int .i64 ix, Value.int .i64 row, Value.int .i64 told, Value.int .i64 st])).toArray.extract 1 (1 + 2) = _
  exact ext3 rfl rfl
theorem FL_sp3 {pa : Value} {la ln rb rm ix row told st : Int} : (FL pa la ln rb rm ix row told st).extract 3 (3 + (SP rb rm).size) = SP rb rm := by
  show ([pa, Value.int .i64 la, Value.int .i64 ln] ++ ([Value.int .i64 rb, Value.int .i64 rm] ++ [Value.int .i64 ix, Value.int .i64 row, Value.int .i64 told, Value.int .i64 st])).toArray.extract 3 (3 + 2) = _
  exact ext3 rfl rfl
theorem FL_fit1 {pa : Value} {la ln rb rm ix row told st : Int} : 1 + (SP la ln).size ≤ (FL pa la ln rb rm ix row told st).size := by rw [FL_size]; show 1 + 2 ≤ 9; omega
theorem FL_fit3 {pa : Value} {la ln rb rm ix row told st : Int} : 3 + (SP rb rm).size ≤ (FL pa la ln rb rm ix row told st).size := by rw [FL_size]; show 3 + 2 ≤ 9; omega
abbrev FLof (ga a n b m index : Nat) (row told st : Int) : Array Value := FL (.pointer (some ⟨ga, 0, none⟩)) a n b m index row told st
structure FdOk (l : List Int) (live : Int) (a n b m index : Nat) : Prop where
  n1 : 1 ≤ n
  n2 : n ≤ 65536
  ap : a + n ≤ b
  fit : (b : Int) + m ≤ live
  four : 4 * (n + 1) ≤ m
  lim : live ≤ l.length
  big : l.length ≤ 1048576
  i1 : 1 ≤ index
  i2 : index ≤ n
  byt : Bytes l
set_option maxRecDepth 100000 in
set_option maxHeartbeats 1000000 in
theorem tbyte_end (gf ga gd a n b m index : Nat) (l : List Int) (row told st live peak : Int) (r : Nat) (w0 w : World) (rs : List (Nat × Array Value)) (ss : List Sl) (hm : Own w0 w ((gf, FLof ga a n b m index row told st) :: (ga, AR (.slice (some ⟨gd, 0, none⟩) l.length l.length) live peak) :: (gd, B l) :: rs) ss) (h : FdOk l live a n b m index) (hr : r ≤ n) (he : r = index) : Calls Tryz.prog 67 #[.pointer (some ⟨gf, 0, none⟩), .int .i64 r] w fun e w' => (e = .returned (.tuple #[.int .u8 0, .bool false])) ∧ Own w0 w' ((gf, FLof ga a n b m index row told st) :: (ga, AR (.slice (some ⟨gd, 0, none⟩) l.length l.length) live peak) :: (gd, B l) :: rs) ss := by
  subst he
  clear h hr
  go_enter Tryz.func67, Tryz.ntmps67
  go_wp2_with (first
      | (with_reducible refine gLd (t := 3) ?_; (refine wpList_run rfl (ld 0 hm rfl rfl rfl (ot rfl) FL_at_ix) ?_)))
  go_ret2
  exact ⟨rfl, hm⟩
set_option maxRecDepth 100000 in
set_option maxHeartbeats 1000000 in
theorem tbyte_lo (gf ga gd a n b m index : Nat) (l : List Int) (row told st live peak : Int) (r : Nat) (w0 w : World) (rs : List (Nat × Array Value)) (ss : List Sl) (hm : Own w0 w ((gf, FLof ga a n b m index row told st) :: (ga, AR (.slice (some ⟨gd, 0, none⟩) l.length l.length) live peak) :: (gd, B l) :: rs) ss) (h : FdOk l live a n b m index) (hr : r ≤ n) (p : Nat) (hp : p = r) (hlt : r < index) : Calls Tryz.prog 67 #[.pointer (some ⟨gf, 0, none⟩), .int .i64 r] w fun e w' => (e = .returned (.tuple #[.int .u8 (gi (colOf l a n) p), .bool true])) ∧ Own w0 w' ((gf, FLof ga a n b m index row told st) :: (ga, AR (.slice (some ⟨gd, 0, none⟩) l.length l.length) live peak) :: (gd, B l) :: rs) ss := by
  obtain ⟨n1, n2, ap, fit, four, lim, big, i1, i2, byt⟩ := h
  have hal : a + n ≤ l.length := by omega
  have CB : Hid (∀ W, RowIs W ga (AR (.slice (some ⟨gd, 0, none⟩) l.length l.length) live peak) → RowIs W gd (B l) → Calls Tryz.prog 116 #[.pointer (some ⟨ga, 0, none⟩), .agg (SP a n), .int .i64 p] W fun e w' => (e = .returned (.tuple #[.int .u8 (gi (colOf l a n) p), .bool true])) ∧ Below W.heap.size W w') := Lib.hid fun W h3 h4 => by have := byte_ok ga gd a n p l live peak W h3 h4 (by omega) lim big (by omega); rwa [← gi_col hal (by omega)] at this
  generalize gi (colOf l a n) p = c at *
  subst hp
  have q1 : ((p : Int) == index) = false := by simp; omega
  have q2 : decide ((index : Int) < p) = false := decide_eq_false (by omega)
  have q3 : decide (index < p) = false := decide_eq_false (by omega)
  clear n1 ap fit four lim big byt hal i1
  go_enter Tryz.func67, Tryz.ntmps67
  go_upto_region 5 with (first
      | (with_reducible refine gLd (t := 3) ?_; (refine wpList_run rfl (ld 0 hm rfl rfl rfl (ot rfl) FL_at_ix) ?_)))
  refine wp_region_KO hm 9 (.rds [(0, false), (1, false), (2, false), (3, true), (4, false), (5, false), (6, false), (7, true), (8, false)] (.brk 9 14 (.rds [(10, false), (11, false), (12, false), (13, false)] .done))) rfl (by kernel_rfl) rfl (by kernel_rfl) (fun _ _ d _ _ h => by cases d <;> exact h) ?_
  clear hm
  intro w hm
  simp only [KT.rds]
  (refine K_p rfl rfl (fun W => by go_simp; rfl) ?_)
  try simp only [Act.put, List.setIfInBounds_toArray, List.set_cons_zero, List.set_cons_succ]
  (refine K_p rfl rfl (fun W => by go_simp; rfl) ?_)
  try simp only [Act.put, List.setIfInBounds_toArray, List.set_cons_zero, List.set_cons_succ]
  (refine K_p rfl rfl (fun W => by go_simp; rfl) ?_)
  try simp only [Act.put, List.setIfInBounds_toArray, List.set_cons_zero, List.set_cons_succ]
  (refine K_m rfl rfl (fun W hm => ld 0 hm rfl rfl rfl (ot rfl) FL_at_pa) ?_)
  try simp only [Act.put, List.setIfInBounds_toArray, List.set_cons_zero, List.set_cons_succ]
  (refine K_p rfl rfl (fun W => by go_simp; rfl) ?_)
  try simp only [Act.put, List.setIfInBounds_toArray, List.set_cons_zero, List.set_cons_succ]
  (refine K_p rfl rfl (fun W => by go_simp; rfl) ?_)
  try simp only [Act.put, List.setIfInBounds_toArray, List.set_cons_zero, List.set_cons_succ]
  (refine K_p rfl rfl (fun W => by go_simp; rfl) ?_)
  try simp only [Act.put, List.setIfInBounds_toArray, List.set_cons_zero, List.set_cons_succ]
  (refine K_m rfl rfl (fun W hm => ldp 0 hm rfl rfl rfl FL_sp1 (aggSP _ _) FL_fit1) ?_)
  try simp only [Act.put, List.setIfInBounds_toArray, List.set_cons_zero, List.set_cons_succ]
  (refine K_p rfl rfl (fun W => by go_simp; rfl) ?_)
  try simp only [Act.put, List.setIfInBounds_toArray, List.set_cons_zero, List.set_cons_succ]
  refine brk_do rfl rfl (fun K hK => ?_)
  go_simp
  refine (CB.out _ (hm.row 1 rfl) (hm.row 2 rfl)).mono ?_
  rintro e w1 ⟨rfl, hb⟩
  replace hm := hm.call hb
  clear hb
  refine hK _ _ ⟨fun W => Own _ W _ _, hm, ?_⟩
  clear hK K
  try simp only [Act.put, List.setIfInBounds_toArray, List.set_cons_zero, List.set_cons_succ]
  (refine K_p rfl rfl (fun W => by go_simp; rfl) ?_)
  try simp only [Act.put, List.setIfInBounds_toArray, List.set_cons_zero, List.set_cons_succ]
  (refine K_p rfl rfl (fun W => by go_simp; rfl) ?_)
  try simp only [Act.put, List.setIfInBounds_toArray, List.set_cons_zero, List.set_cons_succ]
  (refine K_p rfl rfl (fun W => by go_simp; rfl) ?_)
  try simp only [Act.put, List.setIfInBounds_toArray, List.set_cons_zero, List.set_cons_succ]
  (refine K_p rfl rfl (fun W => by go_simp; rfl) ?_)
  try simp only [Act.put, List.setIfInBounds_toArray, List.set_cons_zero, List.set_cons_succ]
  refine K_done ?_
  go_simp
  go_wp2
  go_ret2
  exact ⟨rfl, hm⟩
set_option maxRecDepth 100000 in
set_option maxHeartbeats 1000000 in
theorem tbyte_hi (gf ga gd a n b m index : Nat) (l : List Int) (row told st live peak : Int) (r : Nat) (w0 w : World) (rs : List (Nat × Array Value)) (ss : List Sl) (hm : Own w0 w ((gf, FLof ga a n b m index row told st) :: (ga, AR (.slice (some ⟨gd, 0, none⟩) l.length l.length) live peak) :: (gd, B l) :: rs) ss) (h : FdOk l live a n b m index) (hr : r ≤ n) (p : Nat) (hp : r = p + 1) (hlt : index < r) : Calls Tryz.prog 67 #[.pointer (some ⟨gf, 0, none⟩), .int .i64 r] w fun e w' => (e = .returned (.tuple #[.int .u8 (gi (colOf l a n) p), .bool true])) ∧ Own w0 w' ((gf, FLof ga a n b m index row told st) :: (ga, AR (.slice (some ⟨gd, 0, none⟩) l.length l.length) live peak) :: (gd, B l) :: rs) ss := by
  obtain ⟨n1, n2, ap, fit, four, lim, big, i1, i2, byt⟩ := h
  have hal : a + n ≤ l.length := by omega
  have CB : Hid (∀ W, RowIs W ga (AR (.slice (some ⟨gd, 0, none⟩) l.length l.length) live peak) → RowIs W gd (B l) → Calls Tryz.prog 116 #[.pointer (some ⟨ga, 0, none⟩), .agg (SP a n), .int .i64 p] W fun e w' => (e = .returned (.tuple #[.int .u8 (gi (colOf l a n) p), .bool true])) ∧ Below W.heap.size W w') := Lib.hid fun W h3 h4 => by have := byte_ok ga gd a n p l live peak W h3 h4 (by omega) lim big (by omega); rwa [← gi_col hal (by omega)] at this
  generalize gi (colOf l a n) p = c at *
  subst hp
  have q1 : (((p + 1 : Nat) : Int) == index) = false := by simp; omega
  have q1b : ((p : Int) + 1 == index) = false := by simp; omega
  have q2 : decide ((index : Int) < ((p + 1 : Nat) : Int)) = true := decide_eq_true (by omega)
  have q2b : decide ((index : Int) < (p : Int) + 1) = true := decide_eq_true (by omega)
  have q3 : decide (index < p + 1) = true := decide_eq_true hlt
  have w0b : IntKind.i64.wrap ((p : Int) + 1 - 1) = p := by rw [IntWalk.i64_in _ (by omega)]; omega
  clear n1 ap fit four lim big byt hal i1
  go_enter Tryz.func67, Tryz.ntmps67
  go_upto_region 5 with (first
      | (with_reducible refine gLd (t := 3) ?_; (refine wpList_run rfl (ld 0 hm rfl rfl rfl (ot rfl) FL_at_ix) ?_)))
  refine wp_region_KO hm 9 (.rds [(0, false), (1, false), (2, false), (3, true), (4, false), (5, false), (6, false), (7, true), (8, false)] (.brk 9 14 (.rds [(10, false), (11, false), (12, false), (13, false)] .done))) rfl (by kernel_rfl) rfl (by kernel_rfl) (fun _ _ d _ _ h => by cases d <;> exact h) ?_
  clear hm
  intro w hm
  simp only [KT.rds]
  (refine K_p rfl rfl (fun W => by go_simp; rfl) ?_)
  try simp only [Act.put, List.setIfInBounds_toArray, List.set_cons_zero, List.set_cons_succ]
  (refine K_p rfl rfl (fun W => by go_simp; rfl) ?_)
  try simp only [Act.put, List.setIfInBounds_toArray, List.set_cons_zero, List.set_cons_succ]
  (refine K_p rfl rfl (fun W => by go_simp; rfl) ?_)
  try simp only [Act.put, List.setIfInBounds_toArray, List.set_cons_zero, List.set_cons_succ]
  (refine K_m rfl rfl (fun W hm => ld 0 hm rfl rfl rfl (ot rfl) FL_at_pa) ?_)
  try simp only [Act.put, List.setIfInBounds_toArray, List.set_cons_zero, List.set_cons_succ]
  (refine K_p rfl rfl (fun W => by go_simp; rfl) ?_)
  try simp only [Act.put, List.setIfInBounds_toArray, List.set_cons_zero, List.set_cons_succ]
  (refine K_p rfl rfl (fun W => by go_simp; rfl) ?_)
  try simp only [Act.put, List.setIfInBounds_toArray, List.set_cons_zero, List.set_cons_succ]
  (refine K_p rfl rfl (fun W => by go_simp; rfl) ?_)
  try simp only [Act.put, List.setIfInBounds_toArray, List.set_cons_zero, List.set_cons_succ]
  (refine K_m rfl rfl (fun W hm => ldp 0 hm rfl rfl rfl FL_sp1 (aggSP _ _) FL_fit1) ?_)
  try simp only [Act.put, List.setIfInBounds_toArray, List.set_cons_zero, List.set_cons_succ]
  (refine K_p rfl rfl (fun W => by go_simp; rfl) ?_)
  try simp only [Act.put, List.setIfInBounds_toArray, List.set_cons_zero, List.set_cons_succ]
  refine brk_do rfl rfl (fun K hK => ?_)
  go_simp
  refine (CB.out _ (hm.row 1 rfl) (hm.row 2 rfl)).mono ?_
  rintro e w1 ⟨rfl, hb⟩
  replace hm := hm.call hb
  clear hb
  refine hK _ _ ⟨fun W => Own _ W _ _, hm, ?_⟩
  clear hK K
  try simp only [Act.put, List.setIfInBounds_toArray, List.set_cons_zero, List.set_cons_succ]
  (refine K_p rfl rfl (fun W => by go_simp; rfl) ?_)
  try simp only [Act.put, List.setIfInBounds_toArray, List.set_cons_zero, List.set_cons_succ]
  (refine K_p rfl rfl (fun W => by go_simp; rfl) ?_)
  try simp only [Act.put, List.setIfInBounds_toArray, List.set_cons_zero, List.set_cons_succ]
  (refine K_p rfl rfl (fun W => by go_simp; rfl) ?_)
  try simp only [Act.put, List.setIfInBounds_toArray, List.set_cons_zero, List.set_cons_succ]
  (refine K_p rfl rfl (fun W => by go_simp; rfl) ?_)
  try simp only [Act.put, List.setIfInBounds_toArray, List.set_cons_zero, List.set_cons_succ]
  refine K_done ?_
  go_simp
  go_wp2
  go_ret2
  exact ⟨rfl, hm⟩
theorem tbyte_any (gf ga gd a n b m index : Nat) (l : List Int) (row told st live peak : Int) (r : Nat) (w0 w : World) (rs : List (Nat × Array Value)) (ss : List Sl) (hm : Own w0 w ((gf, FLof ga a n b m index row told st) :: (ga, AR (.slice (some ⟨gd, 0, none⟩) l.length l.length) live peak) :: (gd, B l) :: rs) ss) (h : FdOk l live a n b m index) (hr : r ≤ n) : Calls Tryz.prog 67 #[.pointer (some ⟨gf, 0, none⟩), .int .i64 r] w fun e w' => (e = .returned (if r = index then .tuple #[.int .u8 0, .bool false] else .tuple #[.int .u8 (gi (colOf l a n) (colp index r)), .bool true])) ∧ Own w0 w' ((gf, FLof ga a n b m index row told st) :: (ga, AR (.slice (some ⟨gd, 0, none⟩) l.length l.length) live peak) :: (gd, B l) :: rs) ss := by
  by_cases he : r = index
  · simp only [if_pos he]
    exact tbyte_end gf ga gd a n b m index l row told st live peak r w0 w rs ss hm h hr he
  · simp only [if_neg he]
    by_cases hl : index < r
    · have hc : colp index r = r - 1 := by rw [colp, if_pos hl]
      rw [hc]
      exact tbyte_hi gf ga gd a n b m index l row told st live peak r w0 w rs ss hm h hr (r - 1) (by omega) hl
    · have hc : colp index r = r := by rw [colp, if_neg hl]
      rw [hc]
      exact tbyte_lo gf ga gd a n b m index l row told st live peak r w0 w rs ss hm h hr r rfl (by omega)
set_option maxRecDepth 100000 in
set_option maxHeartbeats 1000000 in
theorem tbehind_end (gf ga gd a n b m index : Nat) (l : List Int) (row told st live peak : Int) (r : Nat) (w0 w : World) (rs : List (Nat × Array Value)) (ss : List Sl) (hm : Own w0 w ((gf, FLof ga a n b m index row told st) :: (ga, AR (.slice (some ⟨gd, 0, none⟩) l.length l.length) live peak) :: (gd, B l) :: rs) ss) (h : FdOk l live a n b m index) (hr : r ≤ n) (hw : w32 l (b + 4 * r) 4 = rowsOf (colOf l a n) index r) (s0 : 0 ≤ st) (s1 : st ≤ 1000000000000000) (he : r = index) : Calls Tryz.prog 73 #[.pointer (some ⟨gf, 0, none⟩), .int .i64 r] w fun e w' => (e = .returned (.tuple #[.int .i64 0, .int .u8 0, .bool false])) ∧ Own w0 w' ((gf, FLof ga a n b m index row told st) :: (ga, AR (.slice (some ⟨gd, 0, none⟩) l.length l.length) live peak) :: (gd, B l) :: rs) ss := by
  have CY : Hid (∀ W, Own w0 W ((gf, FLof ga a n b m index row told st) :: (ga, AR (.slice (some ⟨gd, 0, none⟩) l.length l.length) live peak) :: (gd, B l) :: rs) ss → Calls Tryz.prog 67 #[.pointer (some ⟨gf, 0, none⟩), .int .i64 r] W fun e w' => (e = .returned (if r = index then .tuple #[.int .u8 0, .bool false] else .tuple #[.int .u8 (gi (colOf l a n) (colp index r)), .bool true])) ∧ Own w0 w' ((gf, FLof ga a n b m index row told st) :: (ga, AR (.slice (some ⟨gd, 0, none⟩) l.length l.length) live peak) :: (gd, B l) :: rs) ss) := Lib.hid fun W hW => tbyte_any gf ga gd a n b m index l row told st live peak r w0 W rs ss hW h hr
  have CW : Hid (∀ W, RowIs W ga (AR (.slice (some ⟨gd, 0, none⟩) l.length l.length) live peak) → RowIs W gd (B l) → Calls Tryz.prog 120 #[.pointer (some ⟨ga, 0, none⟩), .agg (SP b m), .int .i64 r] W fun e w' => (e = .returned (.tuple #[.int .u32 (rowsOf (colOf l a n) index r), .bool true])) ∧ Below W.heap.size W w') := Lib.hid fun W h3 h4 => by have := getword_ok ga gd b m r l live peak W h3 h4 h.byt h.fit h.lim h.big (by have := h.four; omega); rwa [hw] at this
  rw [if_pos he] at CY
  rw [rowsOf, if_pos he] at CW
  clear h hr he hw s0 s1
  go_enter Tryz.func73, Tryz.ntmps73
  go_upto_region 2 with (first
      | (go_at_call 67; have _t := hm; refine (CY.out _ hm).mono ?_; clear _t hm; rintro e w ⟨rfl, hm⟩))
  refine wp_region_KO hm 9 (.rds [(0, false), (1, false), (2, false), (3, true), (4, false), (5, false), (6, false), (7, true), (8, false)] (.brk 9 15 (.rds [(10, false), (11, false), (12, false), (13, false), (14, false)] .done))) rfl (by kernel_rfl) rfl (by kernel_rfl) (fun _ _ d _ _ h => by cases d <;> exact h) ?_
  clear hm
  intro w hm
  simp only [KT.rds]
  (refine K_p rfl rfl (fun W => by go_simp; rfl) ?_)
  try simp only [Act.put, List.setIfInBounds_toArray, List.set_cons_zero, List.set_cons_succ]
  (refine K_p rfl rfl (fun W => by go_simp; rfl) ?_)
  try simp only [Act.put, List.setIfInBounds_toArray, List.set_cons_zero, List.set_cons_succ]
  (refine K_p rfl rfl (fun W => by go_simp; rfl) ?_)
  try simp only [Act.put, List.setIfInBounds_toArray, List.set_cons_zero, List.set_cons_succ]
  (refine K_m rfl rfl (fun W hm => ld 0 hm rfl rfl rfl (ot rfl) FL_at_pa) ?_)
  try simp only [Act.put, List.setIfInBounds_toArray, List.set_cons_zero, List.set_cons_succ]
  (refine K_p rfl rfl (fun W => by go_simp; rfl) ?_)
  try simp only [Act.put, List.setIfInBounds_toArray, List.set_cons_zero, List.set_cons_succ]
  (refine K_p rfl rfl (fun W => by go_simp; rfl) ?_)
  try simp only [Act.put, List.setIfInBounds_toArray, List.set_cons_zero, List.set_cons_succ]
  (refine K_p rfl rfl (fun W => by go_simp; rfl) ?_)
  try simp only [Act.put, List.setIfInBounds_toArray, List.set_cons_zero, List.set_cons_succ]
  (refine K_m rfl rfl (fun W hm => ldp 0 hm rfl rfl rfl FL_sp3 (aggSP _ _) FL_fit3) ?_)
  try simp only [Act.put, List.setIfInBounds_toArray, List.set_cons_zero, List.set_cons_succ]
  (refine K_p rfl rfl (fun W => by go_simp; rfl) ?_)
  try simp only [Act.put, List.setIfInBounds_toArray, List.set_cons_zero, List.set_cons_succ]
  refine brk_do rfl rfl (fun K hK => ?_)
  go_simp
  refine (CW.out _ (hm.row 1 rfl) (hm.row 2 rfl)).mono ?_
  rintro e w1 ⟨rfl, hb⟩
  replace hm := hm.call hb
  clear hb
  refine hK _ _ ⟨fun W => Own _ W _ _, hm, ?_⟩
  clear hK K
  try simp only [Act.put, List.setIfInBounds_toArray, List.set_cons_zero, List.set_cons_succ]
  (refine K_p rfl rfl (fun W => by go_simp; rfl) ?_)
  try simp only [Act.put, List.setIfInBounds_toArray, List.set_cons_zero, List.set_cons_succ]
  (refine K_p rfl rfl (fun W => by go_simp; rfl) ?_)
  try simp only [Act.put, List.setIfInBounds_toArray, List.set_cons_zero, List.set_cons_succ]
  (refine K_p rfl rfl (fun W => by go_simp; rfl) ?_)
  try simp only [Act.put, List.setIfInBounds_toArray, List.set_cons_zero, List.set_cons_succ]
  (refine K_p rfl rfl (fun W => by go_simp; rfl) ?_)
  try simp only [Act.put, List.setIfInBounds_toArray, List.set_cons_zero, List.set_cons_succ]
  (refine K_p rfl rfl (fun W => by go_simp; rfl) ?_)
  try simp only [Act.put, List.setIfInBounds_toArray, List.set_cons_zero, List.set_cons_succ]
  refine K_done ?_
  go_simp
  go_wp2
  refine bodyPost_ret (results_tmp3 rfl _ _ _) rfl ⟨rfl, hm⟩
set_option maxRecDepth 100000 in
set_option maxHeartbeats 1000000 in
theorem tbehind_go (gf ga gd a n b m index : Nat) (l : List Int) (row told st live peak : Int) (r : Nat) (w0 w : World) (rs : List (Nat × Array Value)) (ss : List Sl) (hm : Own w0 w ((gf, FLof ga a n b m index row told st) :: (ga, AR (.slice (some ⟨gd, 0, none⟩) l.length l.length) live peak) :: (gd, B l) :: rs) ss) (h : FdOk l live a n b m index) (hr : r ≤ n) (hw : w32 l (b + 4 * r) 4 = rowsOf (colOf l a n) index r) (s0 : 0 ≤ st) (s1 : st ≤ 1000000000000000) (he : r ≠ index) : Calls Tryz.prog 73 #[.pointer (some ⟨gf, 0, none⟩), .int .i64 r] w fun e w' => (e = .returned (.tuple #[.int .i64 (aft (colOf l a n) (colp index r)), .int .u8 (gi (colOf l a n) (colp index r)), .bool true])) ∧ Own w0 w' ((gf, FLof ga a n b m index row told (st + 1)) :: (ga, AR (.slice (some ⟨gd, 0, none⟩) l.length l.length) live peak) :: (gd, B l) :: rs) ss := by
  have CY : Hid (∀ W, Own w0 W ((gf, FLof ga a n b m index row told st) :: (ga, AR (.slice (some ⟨gd, 0, none⟩) l.length l.length) live peak) :: (gd, B l) :: rs) ss → Calls Tryz.prog 67 #[.pointer (some ⟨gf, 0, none⟩), .int .i64 r] W fun e w' => (e = .returned (if r = index then .tuple #[.int .u8 0, .bool false] else .tuple #[.int .u8 (gi (colOf l a n) (colp index r)), .bool true])) ∧ Own w0 w' ((gf, FLof ga a n b m index row told st) :: (ga, AR (.slice (some ⟨gd, 0, none⟩) l.length l.length) live peak) :: (gd, B l) :: rs) ss) := Lib.hid fun W hW => tbyte_any gf ga gd a n b m index l row told st live peak r w0 W rs ss hW h hr
  have CW : Hid (∀ W, RowIs W ga (AR (.slice (some ⟨gd, 0, none⟩) l.length l.length) live peak) → RowIs W gd (B l) → Calls Tryz.prog 120 #[.pointer (some ⟨ga, 0, none⟩), .agg (SP b m), .int .i64 r] W fun e w' => (e = .returned (.tuple #[.int .u32 (rowsOf (colOf l a n) index r), .bool true])) ∧ Below W.heap.size W w') := Lib.hid fun W h3 h4 => by have := getword_ok ga gd b m r l live peak W h3 h4 h.byt h.fit h.lim h.big (by have := h.four; omega); rwa [hw] at this
  rw [if_neg he] at CY
  rw [rowsOf, if_neg he] at CW
  have hal : a + n ≤ l.length := by have := h.ap; have := h.fit; have := h.lim; omega
  have hcl := len_col hal
  have hab := aft_bound (col_bytes (a := a) (n := n) h.byt) (colp index r) (by rw [hcl]; exact colp_lt h.i1 h.i2 hr he)
  have n2 := h.n2
  rw [hcl] at hab
  have w1 : IntKind.i64.wrap (aft (colOf l a n) (colp index r)) = aft (colOf l a n) (colp index r) := IntWalk.i64_in _ (by omega)
  have w2 : IntKind.i64.wrap (st + 1) = st + 1 := IntWalk.i64_in _ (by omega)
  clear h hr he hw s0 s1 hab hal hcl
  generalize aft (colOf l a n) (colp index r) = r2 at *
  generalize gi (colOf l a n) (colp index r) = c at *
  go_enter Tryz.func73, Tryz.ntmps73
  go_upto_region 2 with (first
      | (go_at_call 67; have _t := hm; refine (CY.out _ hm).mono ?_; clear _t hm; rintro e w ⟨rfl, hm⟩))
  refine wp_region_KO hm 9 (.rds [(0, false), (1, false), (2, false), (3, true), (4, false), (5, false), (6, false), (7, true), (8, false)] (.brk 9 15 (.rds [(10, false), (11, false), (12, false), (13, false), (14, false)] .done))) rfl (by kernel_rfl) rfl (by kernel_rfl) (fun _ _ d _ _ h => by cases d <;> exact h) ?_
  clear hm
  intro w hm
  simp only [KT.rds]
  (refine K_p rfl rfl (fun W => by go_simp; rfl) ?_)
  try simp only [Act.put, List.setIfInBounds_toArray, List.set_cons_zero, List.set_cons_succ]
  (refine K_p rfl rfl (fun W => by go_simp; rfl) ?_)
  try simp only [Act.put, List.setIfInBounds_toArray, List.set_cons_zero, List.set_cons_succ]
  (refine K_p rfl rfl (fun W => by go_simp; rfl) ?_)
  try simp only [Act.put, List.setIfInBounds_toArray, List.set_cons_zero, List.set_cons_succ]
  (refine K_m rfl rfl (fun W hm => ld 0 hm rfl rfl rfl (ot rfl) FL_at_pa) ?_)
  try simp only [Act.put, List.setIfInBounds_toArray, List.set_cons_zero, List.set_cons_succ]
  (refine K_p rfl rfl (fun W => by go_simp; rfl) ?_)
  try simp only [Act.put, List.setIfInBounds_toArray, List.set_cons_zero, List.set_cons_succ]
  (refine K_p rfl rfl (fun W => by go_simp; rfl) ?_)
  try simp only [Act.put, List.setIfInBounds_toArray, List.set_cons_zero, List.set_cons_succ]
  (refine K_p rfl rfl (fun W => by go_simp; rfl) ?_)
  try simp only [Act.put, List.setIfInBounds_toArray, List.set_cons_zero, List.set_cons_succ]
  (refine K_m rfl rfl (fun W hm => ldp 0 hm rfl rfl rfl FL_sp3 (aggSP _ _) FL_fit3) ?_)
  try simp only [Act.put, List.setIfInBounds_toArray, List.set_cons_zero, List.set_cons_succ]
  (refine K_p rfl rfl (fun W => by go_simp; rfl) ?_)
  try simp only [Act.put, List.setIfInBounds_toArray, List.set_cons_zero, List.set_cons_succ]
  refine brk_do rfl rfl (fun K hK => ?_)
  go_simp
  refine (CW.out _ (hm.row 1 rfl) (hm.row 2 rfl)).mono ?_
  rintro e w1 ⟨rfl, hb⟩
  replace hm := hm.call hb
  clear hb
  refine hK _ _ ⟨fun W => Own _ W _ _, hm, ?_⟩
  clear hK K
  try simp only [Act.put, List.setIfInBounds_toArray, List.set_cons_zero, List.set_cons_succ]
  (refine K_p rfl rfl (fun W => by go_simp; rfl) ?_)
  try simp only [Act.put, List.setIfInBounds_toArray, List.set_cons_zero, List.set_cons_succ]
  (refine K_p rfl rfl (fun W => by go_simp; rfl) ?_)
  try simp only [Act.put, List.setIfInBounds_toArray, List.set_cons_zero, List.set_cons_succ]
  (refine K_p rfl rfl (fun W => by go_simp; rfl) ?_)
  try simp only [Act.put, List.setIfInBounds_toArray, List.set_cons_zero, List.set_cons_succ]
  (refine K_p rfl rfl (fun W => by go_simp; rfl) ?_)
  try simp only [Act.put, List.setIfInBounds_toArray, List.set_cons_zero, List.set_cons_succ]
  (refine K_p rfl rfl (fun W => by go_simp; rfl) ?_)
  try simp only [Act.put, List.setIfInBounds_toArray, List.set_cons_zero, List.set_cons_succ]
  refine K_done ?_
  go_simp
  go_wp2_with (first
      | (with_reducible refine gLd (t := 3) ?_; (refine wpList_run rfl (ld 0 hm rfl rfl rfl (ot rfl) FL_at_st) ?_))
      | (with_reducible refine gSt (t := 3) ?_; (refine list_eff rfl (eff_cell 0 hm rfl rfl (ev_tmp rfl) rfl (ot rfl) FL_lt_st rfl rfl (FL_put_st _) ?_); clear hm; intro w hm; try simp only [puts, List.cons_append, List.nil_append, List.set] at hm)))
  refine bodyPost_ret (results_tmp3 rfl _ _ _) rfl ⟨rfl, hm⟩
end Go.Proofs.YtkpbhdhkdonghaaGreat

namespace Go.Proofs.YtkpbhdhkdonghaaGreat
open Go Go.RowKit
def wct (l : List Int) (index : Nat) : Nat → Nat → Int
  | 0, _ => 0
  | k + 1, r => if r = index then 0 else 1 + wct l index k (aft l (colp index r)).toNat
set_option maxRecDepth 100000 in
set_option maxHeartbeats 4000000 in
theorem tbvalid_any (gf ga gd a n b m index : Nat) (l : List Int) (row told st live peak : Int) (w0 w : World) (rs : List (Nat × Array Value)) (ss : List Sl) (hm : Own w0 w ((gf, FLof ga a n b m index row told st) :: (ga, AR (.slice (some ⟨gd, 0, none⟩) l.length l.length) live peak) :: (gd, B l) :: rs) ss) (h : FdOk l live a n b m index) (hw : ∀ r, r ≤ n → w32 l (b + 4 * r) 4 = rowsOf (colOf l a n) index r) (s0 : 0 ≤ st) (s1 : st ≤ 100000000000000) : Calls Tryz.prog 28 #[.pointer (some ⟨gf, 0, none⟩)] w fun e w' => (e = .returned (.bool (wval (colOf l a n) index n 0))) ∧ Own w0 w' ((gf, FLof ga a n b m index row told (st + wct (colOf l a n) index n 0)) :: (ga, AR (.slice (some ⟨gd, 0, none⟩) l.length l.length) live peak) :: (gd, B l) :: rs) ss := by
  have hal : a + n ≤ l.length := by have := h.ap; have := h.fit; have := h.lim; omega
  have HCL := Lib.hid (len_col hal)
  have HCB := Lib.hid (col_bytes (a := a) (n := n) h.byt)
  have hn2 := h.n2
  have i1 := h.i1
  have i2 := h.i2
  have CBH : Hid (∀ W (r : Nat) (st' : Int), Own w0 W ((gf, FLof ga a n b m index row told st') :: (ga, AR (.slice (some ⟨gd, 0, none⟩) l.length l.length) live peak) :: (gd, B l) :: rs) ss → r ≤ n → 0 ≤ st' → st' ≤ 1000000000000000 → Calls Tryz.prog 73 #[.pointer (some ⟨gf, 0, none⟩), .int .i64 r] W fun e w' => if r = index then (e = .returned (.tuple #[.int .i64 0, .int .u8 0, .bool false])) ∧ Own w0 w' ((gf, FLof ga a n b m index row told st') :: (ga, AR (.slice (some ⟨gd, 0, none⟩) l.length l.length) live peak) :: (gd, B l) :: rs) ss else (e = .returned (.tuple #[.int .i64 (aft (colOf l a n) (colp index r)), .int .u8 (gi (colOf l a n) (colp index r)), .bool true])) ∧ Own w0 w' ((gf, FLof ga a n b m index row told (st' + 1)) :: (ga, AR (.slice (some ⟨gd, 0, none⟩) l.length l.length) live peak) :: (gd, B l) :: rs) ss) := Lib.hid fun W r st' hW hr h0 h1 => by
    by_cases he : r = index
    · simp only [if_pos he]
      exact tbehind_end gf ga gd a n b m index l row told st' live peak r w0 W rs ss hW h hr (hw r hr) h0 h1 he
    · simp only [if_neg he]
      exact tbehind_go gf ga gd a n b m index l row told st' live peak r w0 W rs ss hW h hr (hw r hr) h0 h1 he
  obtain ⟨bv, hbv⟩ : ∃ bv, bv = wval (colOf l a n) index n 0 := ⟨_, rfl⟩
  obtain ⟨sv, hsv⟩ : ∃ sv, sv = wct (colOf l a n) index n 0 := ⟨_, rfl⟩
  rw [← hbv, ← hsv]
  have HBV := Lib.hid hbv
  have HSV := Lib.hid hsv
  clear hbv hsv h hal hw
  go_enter Tryz.func28, Tryz.ntmps28
  go_wp2_with (first
    | (go_at_call 73; have _t := hm; refine (CB.out _ hm).mono ?_; clear _t hm; rintro e w ⟨rfl, hm⟩)
    | (with_reducible refine gLd (t := 3) ?_; (refine wpList_run rfl (ld 0 hm rfl rfl rfl (ot rfl) (by first | exact FL_at_ix | exact FL_at_ln)) ?_)))
  go_loopw [3, 14] (fun z u wr => ∃ (j r : Nat) (s1 : Int), j ≤ n ∧ r ≤ n ∧ u = .int .i64 j ∧ z = .int .i64 r ∧ 0 ≤ s1 ∧ s1 ≤ j ∧ bv = wval (colOf l a n) index (n - j) r ∧ sv = s1 + wct (colOf l a n) index (n - j) r ∧ Own w0 wr ((gf, FLof ga a n b m index row told (st + s1)) :: (ga, AR (.slice (some ⟨gd, 0, none⟩) l.length l.length) live peak) :: (gd, B l) :: rs) ss) (fun _ u _ => n - (intOf u).toNat)
  case atStart => exact ⟨0, 0, 0, by omega, by omega, rfl, rfl, by omega, by omega, HBV.out, by rw [Int.zero_add]; exact HSV.out, by rw [Int.add_zero]; exact hm⟩
  case round =>
    clear hm
    obtain ⟨j, r, s1, hj, hr, rfl, rfl, s10, s11, hb, hs, hm⟩ := hrel
    by_cases hlt : j < n
    · obtain ⟨i, hi⟩ : ∃ i, n - j = i + 1 := ⟨n - j - 1, by omega⟩
      rw [hi, wval] at hb
      rw [hi, wct] at hs
      have CB := Lib.hid (fun W hW => CBH.out W r (st + s1) hW hr (by omega) (by omega))
      by_cases he : r = index
      · simp only [if_pos he] at CB
        rw [if_pos he] at hb hs
        rw [Int.add_zero] at hs
        subst hb hs
        clear he
        go_wp2_with (first
            | (go_at_call 73; have _t := hm; refine (CB.out _ hm).mono ?_; clear _t hm; rintro e w ⟨rfl, hm⟩)
            | (with_reducible refine gLd (t := 3) ?_; (refine wpList_run rfl (ld 0 hm rfl rfl rfl (ot rfl) (by first | exact FL_at_ix | exact FL_at_ln)) ?_)))
        go_ret
        exact ⟨rfl, hm⟩
      · simp only [if_neg he] at CB
        rw [if_neg he] at hb hs
        have hpl : colp index r < n := colp_lt i1 i2 hr he
        obtain ⟨e1, e2⟩ := aft_nat HCB.out (colp index r) (by rw [HCL.out]; exact hpl)
        rw [HCL.out] at e2
        rw [← e1] at CB
        have HB2 := Lib.hid hb
        have HS2 := Lib.hid hs
        clear hb hs he e1
        generalize (aft (colOf l a n) (colp index r)).toNat = r2 at *
        generalize gi (colOf l a n) (colp index r) = c at *
        go_wp2_with (first
            | (go_at_call 73; have _t := hm; refine (CB.out _ hm).mono ?_; clear _t hm; rintro e w ⟨rfl, hm⟩)
            | (with_reducible refine gLd (t := 3) ?_; (refine wpList_run rfl (ld 0 hm rfl rfl rfl (ot rfl) (by first | exact FL_at_ix | exact FL_at_ln)) ?_)))
        go_roundw
        case rel => exact ⟨j + 1, r2, s1 + 1, by omega, e2, by go_num, rfl, by omega, by omega, by rw [show n - (j + 1) = i by omega]; exact HB2.out, by rw [HS2.out, show n - (j + 1) = i by omega]; omega, by rw [show st + (s1 + 1) = st + s1 + 1 by omega]; exact hm⟩
        case measure => simp [intOf]; omega
    · obtain rfl : n = j := by omega
      rw [Nat.sub_self, wval] at hb
      rw [Nat.sub_self, wct, Int.add_zero] at hs
      subst hb hs
      have q1 : ((r : Int) == index) = decide (r = index) := by
        by_cases h : r = index
        · simp [h]
        · rw [decide_eq_false h]; simp; omega
      generalize hbb : decide (r = index) = bb at *
      have HBB := Lib.hid hbb
      clear hbb
      go_wp2_with (first
          | (go_at_call 73; have _t := hm; refine (CB.out _ hm).mono ?_; clear _t hm; rintro e w ⟨rfl, hm⟩)
          | (with_reducible refine gLd (t := 3) ?_; (refine wpList_run rfl (ld 0 hm rfl rfl rfl (ot rfl) (by first | exact FL_at_ix | exact FL_at_ln)) ?_)))
      go_ret
      exact ⟨by rw [HBB.out]; rfl, hm⟩
set_option maxRecDepth 100000 in
set_option maxHeartbeats 1000000 in
theorem tbnext_go (gf ga gd a n b m index : Nat) (l : List Int) (r k : Nat) (st live peak : Int) (w0 w : World) (rs : List (Nat × Array Value)) (ss : List Sl) (hm : Own w0 w ((gf, FLof ga a n b m index r k st) :: (ga, AR (.slice (some ⟨gd, 0, none⟩) l.length l.length) live peak) :: (gd, B l) :: rs) ss) (h : FdOk l live a n b m index) (hw : ∀ j, j ≤ n → w32 l (b + 4 * j) 4 = rowsOf (colOf l a n) index j) (s0 : 0 ≤ st) (s1 : st ≤ 100000000000000) (hr : r ≤ n) (hk : k < n) (he : r ≠ index) : Calls Tryz.prog 30 #[.pointer (some ⟨gf, 0, none⟩)] w fun e w' => (e = .returned (.tuple #[.int .u8 (gi (colOf l a n) (colp index r)), .bool true])) ∧ Own w0 w' ((gf, FLof ga a n b m index (aft (colOf l a n) (colp index r)) (k + 1) (st + 1)) :: (ga, AR (.slice (some ⟨gd, 0, none⟩) l.length l.length) live peak) :: (gd, B l) :: rs) ss := by
  obtain ⟨r0, hr0⟩ : ∃ r0 : Nat, r0 = r := ⟨r, rfl⟩
  have CB0 : Hid (∀ W (r : Nat) (st' : Int), Own w0 W ((gf, FLof ga a n b m index r0 k st') :: (ga, AR (.slice (some ⟨gd, 0, none⟩) l.length l.length) live peak) :: (gd, B l) :: rs) ss → r ≤ n → 0 ≤ st' → st' ≤ 1000000000000000 → Calls Tryz.prog 73 #[.pointer (some ⟨gf, 0, none⟩), .int .i64 r] W fun e w' => if r = index then (e = .returned (.tuple #[.int .i64 0, .int .u8 0, .bool false])) ∧ Own w0 w' ((gf, FLof ga a n b m index r0 k st') :: (ga, AR (.slice (some ⟨gd, 0, none⟩) l.length l.length) live peak) :: (gd, B l) :: rs) ss else (e = .returned (.tuple #[.int .i64 (aft (colOf l a n) (colp index r)), .int .u8 (gi (colOf l a n) (colp index r)), .bool true])) ∧ Own w0 w' ((gf, FLof ga a n b m index r0 k (st' + 1)) :: (ga, AR (.slice (some ⟨gd, 0, none⟩) l.length l.length) live peak) :: (gd, B l) :: rs) ss) := Lib.hid fun W r st' hW hr h0 h1 => by
      by_cases he : r = index
      · simp only [if_pos he]
        exact tbehind_end gf ga gd a n b m index l r0 k st' live peak r w0 W rs ss hW h hr (hw r hr) h0 h1 he
      · simp only [if_neg he]
        exact tbehind_go gf ga gd a n b m index l r0 k st' live peak r w0 W rs ss hW h hr (hw r hr) h0 h1 he
  subst hr0
  have CB := Lib.hid (fun W hW => CB0.out W r0 st hW hr s0 (by omega))
  have hn2 := h.n2
  have q1 : ((k : Int) == n) = false := by simp; omega
  have w1 : IntKind.i64.wrap ((k : Int) + 1) = (k : Int) + 1 := IntWalk.i64_in _ (by omega)
  simp only [if_neg he] at CB
  clear h hw s0 s1 he hr CB0
  generalize aft (colOf l a n) (colp index r0) = r2 at *
  generalize gi (colOf l a n) (colp index r0) = c at *
  go_enter Tryz.func30, Tryz.ntmps30
  go_upto_region 1 with fail
  refine wp_region_KO hm 14 (.rds [(0, false), (1, false), (2, false), (3, false), (4, false), (5, false), (6, true), (7, false), (8, false), (9, false), (10, false), (11, true), (12, false), (13, false)] .done) rfl (by kernel_rfl) rfl (by kernel_rfl) (fun _ _ d _ _ h => by cases d <;> exact h) ?_
  clear hm
  intro w hm
  simp only [KT.rds]
  (refine K_p rfl rfl (fun W => by go_simp; rfl) ?_)
  try simp only [Act.put, List.setIfInBounds_toArray, List.set_cons_zero, List.set_cons_succ]
  (refine K_p rfl rfl (fun W => by go_simp; rfl) ?_)
  try simp only [Act.put, List.setIfInBounds_toArray, List.set_cons_zero, List.set_cons_succ]
  (refine K_p rfl rfl (fun W => by go_simp; rfl) ?_)
  try simp only [Act.put, List.setIfInBounds_toArray, List.set_cons_zero, List.set_cons_succ]
  (first | (refine K_p rfl rfl (fun W => by go_simp; rfl) ?_) | (refine K_pass rfl rfl ?_))
  try simp only [Act.put, List.setIfInBounds_toArray, List.set_cons_zero, List.set_cons_succ]
  (first | (refine K_p rfl rfl (fun W => by go_simp; rfl) ?_) | (refine K_pass rfl rfl ?_))
  try simp only [Act.put, List.setIfInBounds_toArray, List.set_cons_zero, List.set_cons_succ]
  (first | (refine K_p rfl rfl (fun W => by go_simp; rfl) ?_) | (refine K_pass rfl rfl ?_))
  try simp only [Act.put, List.setIfInBounds_toArray, List.set_cons_zero, List.set_cons_succ]
  (first | (refine K_m rfl rfl (fun W hm => ld 0 hm rfl rfl rfl (ot rfl) FL_at_told) ?_) | (refine K_mpass rfl rfl ?_))
  try simp only [Act.put, List.setIfInBounds_toArray, List.set_cons_zero, List.set_cons_succ]
  (first | (refine K_p rfl rfl (fun W => by go_simp; rfl) ?_) | (refine K_pass rfl rfl ?_))
  try simp only [Act.put, List.setIfInBounds_toArray, List.set_cons_zero, List.set_cons_succ]
  (first | (refine K_p rfl rfl (fun W => by go_simp; rfl) ?_) | (refine K_pass rfl rfl ?_))
  try simp only [Act.put, List.setIfInBounds_toArray, List.set_cons_zero, List.set_cons_succ]
  (first | (refine K_p rfl rfl (fun W => by go_simp; rfl) ?_) | (refine K_pass rfl rfl ?_))
  try simp only [Act.put, List.setIfInBounds_toArray, List.set_cons_zero, List.set_cons_succ]
  (first | (refine K_p rfl rfl (fun W => by go_simp; rfl) ?_) | (refine K_pass rfl rfl ?_))
  try simp only [Act.put, List.setIfInBounds_toArray, List.set_cons_zero, List.set_cons_succ]
  (first | (refine K_m rfl rfl (fun W hm => ld 0 hm rfl rfl rfl (ot rfl) FL_at_ln) ?_) | (refine K_mpass rfl rfl ?_))
  try simp only [Act.put, List.setIfInBounds_toArray, List.set_cons_zero, List.set_cons_succ]
  (first | (refine K_p rfl rfl (fun W => by go_simp; rfl) ?_) | (refine K_pass rfl rfl ?_))
  try simp only [Act.put, List.setIfInBounds_toArray, List.set_cons_zero, List.set_cons_succ]
  (refine K_p rfl rfl (fun W => by go_simp; rfl) ?_)
  try simp only [Act.put, List.setIfInBounds_toArray, List.set_cons_zero, List.set_cons_succ]
  refine K_done ?_
  go_simp
  go_wp2_with (first
      | (go_at_call 73; have _t := hm; refine (CB.out _ hm).mono ?_; clear _t hm; rintro e w ⟨rfl, hm⟩)
      | (with_reducible refine gLd (t := 3) ?_; (refine wpList_run rfl (ld 0 hm rfl rfl rfl (ot rfl) (by first | exact FL_at_row | exact FL_at_told)) ?_))
      | (with_reducible refine gSt (t := 3) ?_; (refine list_eff rfl (eff_cell 0 hm rfl rfl (ev_tmp rfl) rfl (ot rfl) (by first | exact FL_lt_row | exact FL_lt_told) rfl rfl (by first | exact (FL_put_row _) | exact (FL_put_told _)) ?_); clear hm; intro w hm; try simp only [puts, List.cons_append, List.nil_append, List.set] at hm)))
  go_ret2
  exact ⟨rfl, hm⟩
end Go.Proofs.YtkpbhdhkdonghaaGreat

namespace Go.Proofs.YtkpbhdhkdonghaaGreat
open Go Go.RowKit
structure Wrote (col l l2 : List Int) (b index k : Nat) : Prop where
  len : l2.length = l.length
  byt : Bytes l2
  out : ∀ i, i < b → gi l2 i = gi l i
  word : ∀ r, r < k → w32 l2 (b + 4 * r) 4 = rowsOf col index r
theorem Wrote.set {col l l2 : List Int} {b index k : Nat} (h : Wrote col l l2 b index k) (hf : b + 4 * k + 4 ≤ l.length) {v : Int} (hv : v = rowsOf col index k) (v0 : 0 ≤ v) (v1 : v < 4294967296) : Wrote col l (stw l2 (b + 4 * k) v 4) b index (k + 1) := by
  have hl := h.len
  refine ⟨by rw [len_stw, hl], stw_bytes h.byt 4, fun i hi => ?_, fun r hr => ?_⟩
  · rw [gi_stw _ _ _ _ 4 (by omega), if_neg (by omega), h.out i hi]
  · by_cases e : r = k
    · subst e
      rw [w32_stw (by omega) v0 v1, hv]
    · rw [w32_stw_ne (by omega) (by omega)]
      exact h.word r (by omega)
theorem rows_bound {l : List Int} (hb : Bytes l) {index r : Nat} (h1 : 1 ≤ index) (h2 : index ≤ l.length) (hr : r ≤ l.length) : 0 ≤ rowsOf l index r ∧ rowsOf l index r ≤ l.length := by
  rw [rowsOf]
  split
  · omega
  · rename_i h
    have := aft_bound hb (colp index r) (colp_lt h1 h2 hr h)
    omega
set_option maxRecDepth 100000 in
set_option maxHeartbeats 1000000 in
theorem tvalid_ok (ga : Nat) (dv : Value) (live peak : Int) (a n b m : Nat) (w0 : World) (hr : RowIs w0 ga (AR dv live peak)) (n1 : 1 ≤ n) (n2 : n ≤ 65536) (ap : a + n ≤ b) (fit : (b : Int) + m ≤ live) (four : 4 * (n + 1) ≤ m) (lim : live ≤ 1048576) : Calls Tryz.prog 65 #[.pointer (some ⟨ga, 0, none⟩), .agg (SP a n), .agg (SP b m)] w0 fun e w' => (e = .returned (.bool true)) ∧ Below w0.heap.size w0 w' := by
  have CH : Hid (∀ W (x y : Nat), (x = a ∧ y = n ∨ x = b ∧ y = m) → Below w0.heap.size w0 W → Calls Tryz.prog 64 #[.pointer (some ⟨ga, 0, none⟩), .agg (SP x y)] W fun e w' => (e = .returned (.bool true)) ∧ Below W.heap.size W w') := Lib.hid fun W x y hxy h => has_ok ga dv live peak x y W (hr.keep W h) (by omega) (by omega) (by omega) lim
  have q1 : decide ((n : Int) < 1) = false := decide_eq_false (by omega)
  have q2 : decide (65536 < (n : Int)) = false := decide_eq_false (by omega)
  have w1 : IntKind.i64.wrap ((n : Int) + 1) = (n : Int) + 1 := IntWalk.i64_in _ (by omega)
  have w2 : IntKind.i64.wrap (4 * ((n : Int) + 1)) = 4 * ((n : Int) + 1) := IntWalk.i64_in _ (by omega)
  have q3 : decide ((m : Int) < 4 * ((n : Int) + 1)) = false := decide_eq_false (by omega)
  have w3 : IntKind.i64.wrap ((a : Int) + n) = (a : Int) + n := IntWalk.i64_in _ (by omega)
  have q4 : decide ((a : Int) + n ≤ b) = true := decide_eq_true (by omega)
  clear hr
  go_enter Tryz.func65, Tryz.ntmps65
  have hm := Own.nil w0
  go_wp2_with (first
      | (go_at_call 64; have _t := hm; refine (CH.out _ _ _ (by first | exact .inl ⟨rfl, rfl⟩ | exact .inr ⟨rfl, rfl⟩) hm.below).mono ?_; rintro e w1 ⟨rfl, hb⟩; replace hm := hm.call hb; clear hb _t)
      | (with_reducible refine gBx ?_; (refine list_eff rfl (eff_box hm rfl rfl ?_); clear hm; first | (have _t := g2; intro w g3 hm) | (have _t := g1; intro w g2 hm) | intro w g1 hm))
      | (with_reducible refine gLd (t := 3) ?_; (first | (refine wpList_run rfl (ld 0 hm rfl rfl rfl (ot rfl) (by first | exact (SP0 _ _) | exact (SP1 _ _))) ?_) | (refine wpList_run rfl (ld 1 hm rfl rfl rfl (ot rfl) (by first | exact (SP0 _ _) | exact (SP1 _ _))) ?_)))
      | (with_reducible refine gLd (t := 50) ?_; (first | (refine wpList_run rfl (lda 0 hm rfl rfl rfl (aggSP _ _)) ?_) | (refine wpList_run rfl (lda 1 hm rfl rfl rfl (aggSP _ _)) ?_))))
  go_ret
  exact ⟨rfl, hm.below⟩
theorem zrFL (w : World) : (zeroValue 114).run Tryz.prog w = .ok (.agg (FL (.pointer none) 0 0 0 0 0 0 0 0)) w := by kernel_rfl
theorem exec_build114 {o : Oper} {a : Act} {w : World} {x y z u : Operand} (ho : o.op = .build 114 #[(0, x), (1, y), (2, z), (3, u)]) {p : Value} {la ln rb rm ix : Int} (hx : a.eval x = p) (hp : p.cells = #[p]) (hy : a.eval y = .agg (SP la ln)) (hz : a.eval z = .agg (SP rb rm)) (hu : a.eval u = .int .i64 ix) :
    (execOp a.eval o).run Tryz.prog w = .ok (.value (.agg (FL p la ln rb rm ix 0 0 0))) w := by
  refine exec_bld ho ?_
  rw [built_gen (places := [(0, 1), (1, 2), (3, 2), (5, 1), (6, 1), (7, 1), (8, 1)]) (by kernel_rfl) (by kernel_rfl) zrFL (by kernel_rfl) w]
  simp only [List.map_toArray, List.map_cons, List.map_nil, hx, hy, hz, hu]
  rw [fill_cell rfl hp (by rw [FL_size]; omega) (FL_put_pa p)]
  rw [show SP la ln = ([Value.int .i64 la, Value.int .i64 ln] : List Value).toArray from rfl, fill_agg [Value.int .i64 la, Value.int .i64 ln] (n := 2) (ns := FL p la ln 0 0 0 0 0 0) rfl rfl (by rw [FL_size]; omega) (by
    show splice ([p] ++ ([Value.int .i64 0, Value.int .i64 0] ++ [Value.int .i64 0, Value.int .i64 0, Value.int .i64 0, Value.int .i64 0, Value.int .i64 0, Value.int .i64 0])).toArray 1 _ = _
    exact spl3 (off := 1) (P := [p]) rfl rfl)]
  rw [show SP rb rm = ([Value.int .i64 rb, Value.int .i64 rm] : List Value).toArray from rfl, fill_agg [Value.int .i64 rb, Value.int .i64 rm] (n := 2) (ns := FL p la ln rb rm 0 0 0 0) rfl rfl (by rw [FL_size]; omega) (by
    show splice ([p, Value.int .i64 la, Value.int .i64 ln] ++ ([Value.int .i64 0, Value.int .i64 0] ++ [Value.int .i64 0, Value.int .i64 0, Value.int .i64 0, Value.int .i64 0])).toArray 3 _ = _
    exact spl3 (off := 3) (P := [p, Value.int .i64 la, Value.int .i64 ln]) rfl rfl)]
  rw [fill_cell rfl rfl (by rw [FL_size]; omega) (FL_put_ix ix)]
  rfl
end Go.Proofs.YtkpbhdhkdonghaaGreat

namespace Go.Proofs.YtkpbhdhkdonghaaGreat
open Go Go.RowKit
section
variable {w0 w : World} {p q r s t u : Nat × Array Value} {rs : List (Nat × Array Value)} {ss : List Sl}
theorem Own.pick6 (h : Own w0 w (p :: q :: r :: s :: t :: u :: rs) ss) : Own w0 w (q :: t :: u :: p :: r :: s :: rs) ss := h.perm (by
  refine List.Perm.trans ?_ (List.Perm.swap p q _)
  refine List.Perm.cons q ?_
  exact ((List.perm_append_comm (l₁ := [t, u]) (l₂ := [p, r, s])).append_right rs))
theorem Own.unpick6 (h : Own w0 w (q :: t :: u :: p :: r :: s :: rs) ss) : Own w0 w (p :: q :: r :: s :: t :: u :: rs) ss := h.perm (List.Perm.symm (by
  refine List.Perm.trans ?_ (List.Perm.swap p q _)
  refine List.Perm.cons q ?_
  exact ((List.perm_append_comm (l₁ := [t, u]) (l₂ := [p, r, s])).append_right rs)))
theorem Own.pickf (h : Own w0 w (p :: q :: r :: s :: t :: u :: rs) ss) : Own w0 w (q :: t :: u :: rs) ss := h.sub (List.Sublist.cons _ (List.Sublist.cons_cons _ (List.Sublist.cons _ (List.Sublist.cons _ (List.Sublist.refl _))))) (List.Sublist.refl _)
end
set_option maxRecDepth 100000 in
set_option maxHeartbeats 4000000 in
theorem tbnew_any (ga gd a n b m index : Nat) (l : List Int) (live peak : Int) (w0 w : World) (rs : List (Nat × Array Value)) (ss : List Sl) (hm : Own w0 w ((ga, AR (.slice (some ⟨gd, 0, none⟩) l.length l.length) live peak) :: (gd, B l) :: rs) ss) (h : FdOk l live a n b m index) : Calls Tryz.prog 25 #[.pointer (some ⟨ga, 0, none⟩), .agg (SP a n), .int .i64 index, .agg (SP b m)] w fun e w' => ∃ (gf : Nat) (l2 : List Int), (e = .returned (.tuple #[.pointer (some ⟨gf, 0, none⟩), .int .i64 0])) ∧ l2.length = l.length ∧ colOf l2 a n = colOf l a n ∧ (∀ i, i < b → gi l2 i = gi l i) ∧ FdOk l2 live a n b m index ∧ (∀ r, r ≤ n → w32 l2 (b + 4 * r) 4 = rowsOf (colOf l2 a n) index r) ∧ Own w0 w' ((gf, FLof ga a n b m index 0 0 0) :: (ga, AR (.slice (some ⟨gd, 0, none⟩) l2.length l2.length) live peak) :: (gd, B l2) :: rs) ss := by
  obtain ⟨n1, n2, ap, fit, four, lim, big, i1, i2, byt⟩ := h
  have hal : a + n ≤ l.length := by omega
  have HCL : Hid ((colOf l a n).length = n) := Lib.hid (len_col hal)
  have HCB : Hid (Bytes (colOf l a n)) := Lib.hid (col_bytes byt)
  obtain ⟨col, hcol⟩ : ∃ col, col = colOf l a n := ⟨_, rfl⟩
  have HCOL := Lib.hid hcol
  rw [← hcol] at HCL HCB ⊢
  have CV : Hid (∀ W, RowIs W ga (AR (.slice (some ⟨gd, 0, none⟩) l.length l.length) live peak) → Calls Tryz.prog 65 #[.pointer (some ⟨ga, 0, none⟩), .agg (SP a n), .agg (SP b m)] W fun e w' => (e = .returned (.bool true)) ∧ Below W.heap.size W w') := Lib.hid fun W hr => tvalid_ok ga _ live peak a n b m W hr n1 n2 ap fit four (by omega)
  have CL : Hid (∀ W, RowIs W ga (AR (.slice (some ⟨gd, 0, none⟩) l.length l.length) live peak) → RowIs W gd (B l) → Calls Tryz.prog 66 #[.pointer (some ⟨ga, 0, none⟩), .agg (SP a n)] W fun e w' => (e = .returned (.agg (J .i64 (tab 256 (lsn col))))) ∧ Below W.heap.size W w') := Lib.hid fun W h3 h4 => by
    rw [hcol]
    exact rless_any ga gd a n l live peak W h3 h4 byt (by omega) lim big (by omega)
  have q1 : decide ((index : Int) < 1) = false := decide_eq_false (by omega)
  have q2 : decide ((n : Int) < index) = false := decide_eq_false (by omega)
  have q3 : decide (n < index) = false := decide_eq_false (by omega)
  have wn : IntKind.i64.wrap ((n : Int) + 1) = ((n + 1 : Nat) : Int) := by rw [IntWalk.i64_in _ (by omega)]; push_cast; rfl
  have hz : Wrote col l l b index 0 := ⟨rfl, byt, fun _ _ => rfl, fun r h => by omega⟩
  clear hcol hal byt
  go_enter Tryz.func25, Tryz.ntmps25
  go_wp2_with (first
    | (go_at_call 65; have _t := hm; refine (CV.out _ (hm.row 2 rfl)).mono ?_; rintro e w1 ⟨rfl, hb⟩; replace hm := hm.call hb; clear hb _t)
    | (go_at_call 66; have _t := hm; refine (CL.out _ (hm.row 3 rfl) (hm.row 4 rfl)).mono ?_; rintro e w1 ⟨rfl, hb⟩; replace hm := hm.call hb; clear hb _t)
    | (with_reducible refine gBx ?_; (refine list_eff rfl (eff_box hm rfl rfl ?_); clear hm; first | (have _t := g2; intro w gf hm) | (have _t := g1; intro w g2 hm) | intro w g1 hm))
    | (with_reducible refine gBu ?_; (refine wpList_run rfl (exec_build114 rfl rfl rfl rfl rfl rfl) ?_))
    | (with_reducible refine gAl (t := 115) ?_; (refine list_eff rfl (eff_alloc hm rfl zrI256 ?_); clear hm; intro w g11 hm))
    | (with_reducible refine gSt (t := 115) ?_; (refine list_eff rfl (eff_store 0 hm rfl rfl (ev_tmp rfl) rfl (ag115 _) (sz115 _ _) (J_one _ _) ?_); clear hm; intro w hm; try simp only [puts, List.cons_append, List.nil_append, List.set] at hm))
    | (with_reducible refine gLd (t := 3) ?_; (first | (refine wpList_run rfl (ld 0 hm rfl rfl rfl (ot rfl) (by first | exact (SP0 _ _) | exact (SP1 _ _))) ?_) | (refine wpList_run rfl (ld 1 hm rfl rfl rfl (ot rfl) (by first | exact (SP0 _ _) | exact (SP1 _ _))) ?_) | (refine wpList_run rfl (ld 2 hm rfl rfl rfl (ot rfl) (by first | exact (SP0 _ _) | exact (SP1 _ _))) ?_) | (refine wpList_run rfl (ld 3 hm rfl rfl rfl (ot rfl) (by first | exact (SP0 _ _) | exact (SP1 _ _))) ?_)))
    | (with_reducible refine gLd (t := 50) ?_; (first | (refine wpList_run rfl (lda 0 hm rfl rfl rfl (aggSP _ _)) ?_) | (refine wpList_run rfl (lda 1 hm rfl rfl rfl (aggSP _ _)) ?_) | (refine wpList_run rfl (lda 2 hm rfl rfl rfl (aggSP _ _)) ?_) | (refine wpList_run rfl (lda 3 hm rfl rfl rfl (aggSP _ _)) ?_))))
  have hm0 : Own w0 w ((g11, J .i64 (tab 256 (cntC col (colp index 0)))) :: (gf, FLof ga a n b m index 0 0 0) :: (g2, SP b m) :: (g1, SP a n) :: (ga, AR (.slice (some ⟨gd, 0, none⟩) l.length l.length) live peak) :: (gd, B l) :: rs) ss := by
    rw [tab_congr (f := cntC col (colp index 0)) (g := lsn col) (fun i _ => by rw [cntC, show colp index 0 = 0 by rw [colp, if_neg (by omega)]]; simp [eqn])]
    exact hm
  clear hm
  have hm := hm0
  clear hm0
  go_loopw [43] (fun u wr => ∃ (k : Nat) (l2 : List Int), k ≤ n + 1 ∧ u = .int .i64 k ∧ Wrote col l l2 b index k ∧ Own w0 wr ((g11, J .i64 (tab 256 (cntC col (colp index k)))) :: (gf, FLof ga a n b m index 0 0 0) :: (g2, SP b m) :: (g1, SP a n) :: (ga, AR (.slice (some ⟨gd, 0, none⟩) l.length l.length) live peak) :: (gd, B l2) :: rs) ss) (fun u _ => n + 1 - (intOf u).toNat)
  case atStart => exact ⟨0, l, by omega, rfl, hz, hm⟩
  case round =>
    clear hm hz
    obtain ⟨k, l2, hk, rfl, hW, hm⟩ := hrel
    have hl2 := hW.len
    by_cases hlt : k < n + 1
    · have q0 : decide ((k : Int) < ((n + 1 : Nat) : Int)) = true := decide_eq_true (by omega)
      have q0b : decide ((k : Int) < (n : Int) + 1) = true := decide_eq_true (by omega)
      have hcol2 : colOf l2 a n = col := by
        rw [HCOL.out]
        exact col_congr hl2 (by omega) (fun i _ h2 => hW.out i (by omega))
      have hbd := rows_bound HCB.out (index := index) (r := k) i1 (by rw [HCL.out]; exact i2) (by rw [HCL.out]; omega)
      rw [HCL.out] at hbd
      have CY : Hid (∀ (W : World), Own w0 W ((g11, J .i64 (tab 256 (cntC col (colp index k)))) :: (gf, FLof ga a n b m index 0 0 0) :: (g2, SP b m) :: (g1, SP a n) :: (ga, AR (.slice (some ⟨gd, 0, none⟩) l.length l.length) live peak) :: (gd, B l2) :: rs) ss → Calls Tryz.prog 67 #[.pointer (some ⟨gf, 0, none⟩), .int .i64 k] W fun e w' => (e = .returned (if k = index then .tuple #[.int .u8 0, .bool false] else .tuple #[.int .u8 (gi col (colp index k)), .bool true])) ∧ Own w0 w' ((g11, J .i64 (tab 256 (cntC col (colp index k)))) :: (gf, FLof ga a n b m index 0 0 0) :: (g2, SP b m) :: (g1, SP a n) :: (ga, AR (.slice (some ⟨gd, 0, none⟩) l.length l.length) live peak) :: (gd, B l2) :: rs) ss) := Lib.hid fun W hX => by
        have hp := tbyte_any gf ga gd a n b m index l2 0 0 0 live peak k w0 W ((g11, J .i64 (tab 256 (cntC col (colp index k)))) :: (g2, SP b m) :: (g1, SP a n) :: rs) ss (by rw [hl2]; exact hX.pick6) ⟨n1, n2, ap, fit, four, by omega, by omega, i1, i2, hW.byt⟩ (by omega)
        rw [hcol2] at hp
        refine hp.mono fun e w' h => ⟨h.1, ?_⟩
        have h2 := h.2
        rw [hl2] at h2
        exact h2.unpick6
      have CS : Hid (∀ (W : World) (f : Nat → Int), Own w0 W ((g11, J .i64 (tab 256 (f))) :: (gf, FLof ga a n b m index 0 0 0) :: (g2, SP b m) :: (g1, SP a n) :: (ga, AR (.slice (some ⟨gd, 0, none⟩) l.length l.length) live peak) :: (gd, B l2) :: rs) ss → Calls Tryz.prog 68 #[.pointer (some ⟨ga, 0, none⟩), .agg (SP b m), .int .i64 k, .int .u32 (rowsOf col index k)] W fun e w' => (e = .returned (.bool true)) ∧ Own w0 w' ((g11, J .i64 (tab 256 (f))) :: (gf, FLof ga a n b m index 0 0 0) :: (g2, SP b m) :: (g1, SP a n) :: (ga, AR (.slice (some ⟨gd, 0, none⟩) l.length l.length) live peak) :: (gd, B (stw l2 (b + 4 * k) (rowsOf col index k) 4)) :: rs) ss) := Lib.hid fun W f hX => setword_ok ga gd b m k l2 (rowsOf col index k) live peak w0 W _ ss 4 5 hX (by rw [hl2]; rfl) rfl fit (by omega) (by omega) (by omega) hbd.1 (by omega) (by decide)
      have HW2 : Hid (Wrote col l (stw l2 (b + 4 * k) (rowsOf col index k) 4) b index (k + 1)) := Lib.hid (hW.set (by omega) rfl hbd.1 (by omega))
      have w5 : IntKind.u32.wrap (rowsOf col index k) = rowsOf col index k := IntWalk.u32_in _ (by omega)
      have HBD := Lib.hid hbd
      clear hW hcol2 hbd
      by_cases hi : k = index
      · rw [if_pos hi] at CY
        have hr0 : rowsOf col index k = 0 := by rw [rowsOf, if_pos hi]
        have HT : Hid (tab 256 (cntC col (colp index (k + 1))) = tab 256 (cntC col (colp index k))) := Lib.hid (by rw [show colp index (k + 1) = colp index k by simp only [colp]; rw [if_pos (by omega), if_neg (by omega)]; omega])
        rw [hr0] at CS HW2
        clear hi hr0 w5 HBD
        have CS1 := Lib.hid (CS.out · (cntC col (colp index k)))
        generalize tab 256 (cntC col (colp index k)) = T1 at *
        go_wp2_with (first
            | (go_at_call 67; have _t := hm; refine (CY.out _ hm).mono ?_; clear _t hm; rintro e w ⟨rfl, hm⟩)
            | (go_at_call 68; have _t := hm; refine (CS1.out _ hm).mono ?_; clear _t hm; rintro e w ⟨rfl, hm⟩)
            | (with_reducible refine gLd (t := 3) ?_; (refine wpList_run rfl (ld 2 hm rfl rfl rfl (ot rfl) (by first | exact (SP0 _ _) | exact (SP1 _ _))) ?_))
            | (with_reducible refine gLd (t := 50) ?_; (refine wpList_run rfl (lda 2 hm rfl rfl rfl (aggSP _ _)) ?_)))
        go_roundw
        case rel => exact ⟨k + 1, _, by omega, by go_num, HW2.out, by rw [HT.out]; exact hm⟩
        case measure => simp [intOf]; omega
      · rw [if_neg hi] at CY
        obtain ⟨p, hp⟩ : ∃ p, p = colp index k := ⟨_, rfl⟩
        have hpl : p < n := by rw [hp]; exact colp_lt i1 i2 (by omega) hi
        have hp1 : p = if index < k then k - 1 else k := hp
        have hp2 : colp index (k + 1) = p + 1 := by rw [colp]; split at hp1 <;> split <;> omega
        have hs := HCB.out (gi col p) (by rw [gi_eq col p (by rw [HCL.out]; exact hpl)]; exact List.getElem_mem _)
        obtain ⟨c, hc⟩ := Int.eq_ofNat_of_zero_le hs.1
        have hc1 : c < 256 := by omega
        have hrow : rowsOf col index k = cntC col p c + 1 := by rw [rowsOf, if_neg hi, aft, ← hp, hc, cntC, Int.toNat_natCast]; omega
        have hbd := HBD.out
        rw [hrow] at CS HW2 hbd w5
        rw [← hp] at CY hm
        rw [hc] at CY
        have w3 : IntKind.i64.wrap (cntC col p c + 1) = cntC col p c + 1 := IntWalk.i64_in _ (by omega)
        have HP := Lib.hid (J_tab .i64 (n := 256) (cntC col p) (cntC col (p + 1)) c (cntC col p c + 1) (fun j _ => cntC_set (by rw [HCL.out]; exact hpl) hc j))
        have HG := Lib.hid (at_tab .i64 (cntC col p) hc1)
        have HG2 : Hid ((J .i64 (tab 256 (cntC col (p + 1))))[c]? = some (.int .i64 (cntC col p c + 1))) := Lib.hid (by rw [at_tab .i64 _ hc1, ← cntC_set (by rw [HCL.out]; exact hpl) hc, if_pos rfl])
        have HSZ : Hid (c < (J .i64 (tab 256 (cntC col p))).size) := Lib.hid (by rw [size_J, len_tab]; exact hc1)
        have CS1 := Lib.hid (CS.out · (cntC col (p + 1)))
        clear hs hc hbd hp1 hp hi HBD hrow CS
        generalize cntC col p c = z at *
        generalize hT1 : tab 256 (cntC col p) = T1 at *
        generalize hT2 : tab 256 (cntC col (p + 1)) = T2 at *
        go_wp2_with (first
            | (go_at_call 67; have _t := hm; refine (CY.out _ hm).mono ?_; clear _t hm; rintro e w ⟨rfl, hm⟩)
            | (go_at_call 68; have _t := hm; refine (CS1.out _ hm).mono ?_; clear _t hm; rintro e w ⟨rfl, hm⟩)
            | (with_reducible refine gLd (t := 3) ?_; (refine wpList_run rfl (ld 2 hm rfl rfl rfl (ot rfl) (by first | exact (SP0 _ _) | exact (SP1 _ _))) ?_))
            | (with_reducible refine gLd (t := 50) ?_; (refine wpList_run rfl (lda 2 hm rfl rfl rfl (aggSP _ _)) ?_))
            | (with_reducible refine gLd (t := 3) ?_; (refine wpList_run rfl (ld 0 hm rfl rfl rfl (ot rfl) (by first | exact HG.out | exact HG2.out)) ?_))
            | (with_reducible refine gSt (t := 3) ?_; (refine list_eff rfl (eff_cell 0 hm rfl rfl (ev_tmp rfl) rfl (ot rfl) HSZ.out rfl rfl HP.out ?_); clear hm; intro w hm; try simp only [puts, List.cons_append, List.nil_append, List.set] at hm)))
        go_roundw
        case rel => exact ⟨k + 1, _, by omega, by go_num, HW2.out, by rw [hp2, hT2]; exact hm⟩
        case measure => simp [intOf]; omega
    · obtain rfl : k = n + 1 := by omega
      have q0 : decide (((n + 1 : Nat) : Int) < ((n + 1 : Nat) : Int)) = false := decide_eq_false (by omega)
      have hcol2 : colOf l2 a n = colOf l a n := col_congr hl2 (by omega) (fun i _ h2 => hW.out i (by omega))
      have HE := Lib.hid (⟨hl2, by rw [hcol2, ← HCOL.out], hW.out, ⟨n1, n2, ap, fit, four, by omega, by omega, i1, i2, hW.byt⟩, fun r hr => by rw [hcol2, ← HCOL.out]; exact hW.word r (by omega)⟩ : l2.length = l.length ∧ colOf l2 a n = col ∧ (∀ i, i < b → gi l2 i = gi l i) ∧ FdOk l2 live a n b m index ∧ (∀ r, r ≤ n → w32 l2 (b + 4 * r) 4 = rowsOf (colOf l2 a n) index r))
      clear hW
      generalize tab 256 (cntC col (colp index (n + 1))) = T at *
      go_wp2
      go_ret2
      exact ⟨gf, l2, rfl, HE.out.1, HE.out.2.1, HE.out.2.2.1, HE.out.2.2.2.1, HE.out.2.2.2.2, by rw [hl2]; exact hm.pickf⟩
end Go.Proofs.YtkpbhdhkdonghaaGreat

namespace Go.Proofs.YtkpbhdhkdonghaaGreat
open Go Go.RowKit
theorem zeroAt_zeros (b : Nat) : ∀ (n o : Nat), zeroAt (List.replicate b 0) o n = List.replicate b 0
  | 0, _ => rfl
  | n + 1, o => by
    have h : (List.replicate b (0 : Int)).set o 0 = List.replicate b 0 := by
      apply List.ext_getElem?
      intro i
      rw [List.getElem?_set]
      simp only [List.length_replicate, List.getElem?_replicate]
      by_cases e : o = i
      · subst e; simp
      · simp [e]
    rw [zeroAt, h, zeroAt_zeros b n (o + 1)]
theorem col_put (b : Nat) (l : List Int) (h : l.length ≤ b) : colOf (putL8 (List.replicate b 0) 0 l) 0 l.length = l := by
  simp [colOf, seg, putL8]
theorem len_put (b : Nat) (l : List Int) (h : l.length ≤ b) : (putL8 (List.replicate b 0) 0 l).length = b := by
  simp [putL8]; omega
theorem bytes_put (b : Nat) {l : List Int} (hb : Bytes l) : Bytes (putL8 (List.replicate b 0) 0 l) := fun x hx => by
  simp [putL8] at hx
  rcases hx with h | h
  · exact hb x h
  · omega
theorem bwk_val (l : List Int) (index : Nat) : ∀ (k r : Nat) (acc : List Int), (bwk l index k r acc).isSome = wval l index k r
  | 0, r, acc => by
    rw [bwk, wval]
    by_cases h : r = index <;> simp [h]
  | k + 1, r, acc => by
    rw [bwk, wval]
    by_cases h : r = index
    · simp [h]
    · rw [if_neg h, if_neg h, bwk_val l index k]
theorem bwk_end (l : List Int) (index : Nat) : ∀ (k r : Nat) (acc t : List Int), bwk l index k r acc = some t → t.length = k + acc.length ∧ t.drop k = acc
  | 0, r, acc, t, h => by
    rw [bwk] at h
    split at h
    · cases h; simp
    · cases h
  | k + 1, r, acc, t, h => by
    rw [bwk] at h
    split at h
    · cases h
    · obtain ⟨h1, h2⟩ := bwk_end l index k _ _ t h
      rw [List.length_cons] at h1
      refine ⟨by omega, ?_⟩
      have h3 : t.drop (k + 1) = (t.drop k).drop 1 := by rw [List.drop_drop]
      rw [h3, h2]; rfl
theorem bwk_at {l : List Int} {index k r : Nat} {acc t : List Int} (h : bwk l index (k + 1) r acc = some t) : r ≠ index ∧ bwk l index k (aft l (colp index r)).toNat (gi l (colp index r) :: acc) = some t ∧ gi t k = gi l (colp index r) := by
  rw [bwk] at h
  split at h
  · cases h
  · rename_i hr
    obtain ⟨h1, h2⟩ := bwk_end l index k _ _ t h
    rw [List.length_cons] at h1
    refine ⟨hr, h, ?_⟩
    have hk : k < t.length := by omega
    rw [List.drop_eq_getElem_cons hk] at h2
    rw [gi_eq t k hk]
    exact (List.cons.inj h2).1
theorem wst_bd (l : List Int) (index d : Nat) (hd : 1 ≤ d) : ∀ k r, 0 ≤ wst l index d k r ∧ wst l index d k r ≤ (k : Int) * (1 + d)
  | 0, r => by simp [wst]
  | k + 1, r => by
    have ih := wst_bd l index d hd k (aft l (colp index r)).toNat
    have hm := Nat.mod_lt (colp index r) (show d > 0 by omega)
    rw [wst]
    have e : ((k + 1 : Nat) : Int) * (1 + d) = (k : Int) * (1 + d) + (1 + d) := by rw [Int.natCast_add, Int.add_mul]; simp
    have h0 : (0 : Int) ≤ (k : Int) * (1 + d) := Int.mul_nonneg (by omega) (by omega)
    split <;> omega
theorem wct_bd (l : List Int) (index : Nat) : ∀ k r, 0 ≤ wct l index k r ∧ wct l index k r ≤ k
  | 0, r => by simp [wct]
  | k + 1, r => by
    have ih := wct_bd l index k (aft l (colp index r)).toNat
    rw [wct]
    split <;> omega
end Go.Proofs.YtkpbhdhkdonghaaGreat
