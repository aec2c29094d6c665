/-
  Part 18 of the proof.
-/
import Derived.Test.YtkpbhdhkdonghaaGreatT11
import Derived.Test.YtkpbhdhkdonghaaGreatT16
import Derived.Test.YtkpbhdhkdonghaaGreatT17
set_option linter.all false
namespace Go.Proofs.YtkpbhdhkdonghaaGreat
open Go Go.RowKit
set_option maxRecDepth 100000 in
set_option maxHeartbeats 1000000 in
theorem valid_first (b n : Int) (w0 : World) (hb : b = 0 ∨ b = 1 ∨ b = 2 ∨ b = 3) (n0 : 0 ≤ n) (n1 : n < 2 ^ b.toNat) : Calls Tryz.prog 167 #[.agg (TS z258 0 b n 0)] w0 (fun e w' => (e = .returned (.bool true)) ∧ Below w0.heap.size w0 w') := by
  have CB := Lib.hid (fun w => beg_yes b n hb n0 n1 w)
  have HL := Lib.hid len_z258
  clear hb n0 n1
  go_enter Tryz.func167, Tryz.ntmps167
  have hm := Own.nil w0
  go_wp2_with (first
      | (go_at_call 209; have _t := hm; refine (CB.out _).mono ?_; rintro e w1 ⟨rfl, hb⟩; replace hm := hm.call hb; clear hb _t)
      | (with_reducible refine gBx ?_; (refine list_eff rfl (eff_box hm rfl rfl ?_); clear hm; intro w g hm))
      | (with_reducible refine gLd (t := 3) ?_; (refine wpList_run rfl (ld 0 hm rfl rfl rfl (ot rfl) (by first | exact (TS_at_s HL.out) | exact (TS_at_b HL.out) | exact (TS_at_n HL.out) | exact (TS_at_d HL.out))) ?_))
      | (with_reducible refine gLd (t := 141) ?_; (refine wpList_run rfl (lda 0 hm rfl rfl rfl (TS_ag HL.out)) ?_))
      | (with_reducible refine gLd (t := 139) ?_; (refine wpList_run rfl (ldp 0 hm rfl rfl rfl (TS_sub_l HL.out) (aggN HL.out) (TS_fit_l HL.out)) ?_)))
  go_ret
  exact ⟨rfl, hm.below⟩
set_option maxRecDepth 100000 in
set_option maxHeartbeats 1000000 in
theorem valid_z0 (l : List Int) (s b n d : Int) (w0 : World) (hl : l.length = 258) (hb : b = 4 ∨ b = 5) (hs : s = 0) (n0 : 0 ≤ n) (n1 : n ≤ 15) (hk : Known l s) (hd : d = 0) : Calls Tryz.prog 167 #[.agg (TS l s b n d)] w0 (fun e w' => (e = .returned (.bool true)) ∧ Below w0.heap.size w0 w') := by
  have CB := Lib.hid (fun w => beg_no l s b n d hl (by omega) w)
  have CK := Lib.hid (fun w => known_ok l s b n d w hl hk)
  have HL := Lib.hid hl
  have w1 : wi b 4 5 = true := wi_t (by omega) (by omega)
  have w2 : wi s 0 258 = true := wi_t (by omega) (by omega)
  have w3 : wi n 0 15 = true := wi_t n0 n1
  have w4 : wi d 0 2 = true := wi_t (by omega) (by omega)
  subst hs hd
  clear hb n0 n1 hk hl
  go_enter Tryz.func167, Tryz.ntmps167
  have hm := Own.nil w0
  go_wp2_with (first
      | (go_at_call 209; have _t := hm; refine (CB.out _).mono ?_; rintro e w1 ⟨rfl, hb⟩; replace hm := hm.call hb; clear hb _t)
      | (go_at_call 211; have _t := hm; refine (CK.out _).mono ?_; rintro e w1 ⟨rfl, hb⟩; replace hm := hm.call hb; clear hb _t)
      | (go_at_call 210; refine (lwithin _ _ _ _).mono ?_; rintro e w1 ⟨rfl, rfl⟩)
      | (with_reducible refine gBx ?_; (refine list_eff rfl (eff_box hm rfl rfl ?_); clear hm; intro w g hm))
      | (with_reducible refine gLd (t := 3) ?_; (refine wpList_run rfl (ld 0 hm rfl rfl rfl (ot rfl) (by first | exact (TS_at_s HL.out) | exact (TS_at_b HL.out) | exact (TS_at_n HL.out) | exact (TS_at_d HL.out))) ?_))
      | (with_reducible refine gLd (t := 141) ?_; (refine wpList_run rfl (lda 0 hm rfl rfl rfl (TS_ag HL.out)) ?_))
      | (with_reducible refine gLd (t := 139) ?_; (refine wpList_run rfl (ldp 0 hm rfl rfl rfl (TS_sub_l HL.out) (aggN HL.out) (TS_fit_l HL.out)) ?_)))
  go_ret
  exact ⟨rfl, hm.below⟩
set_option maxRecDepth 100000 in
set_option maxHeartbeats 1000000 in
theorem valid_z1 (l : List Int) (s b n d : Int) (w0 : World) (hl : l.length = 258) (hb : b = 4 ∨ b = 5) (hs : s = 0) (n0 : 0 ≤ n) (n1 : n ≤ 15) (hk : Known l s) (hd : d = 1) (hn : 0 < n) : Calls Tryz.prog 167 #[.agg (TS l s b n d)] w0 (fun e w' => (e = .returned (.bool true)) ∧ Below w0.heap.size w0 w') := by
  have CB := Lib.hid (fun w => beg_no l s b n d hl (by omega) w)
  have CK := Lib.hid (fun w => known_ok l s b n d w hl hk)
  have HL := Lib.hid hl
  have w1 : wi b 4 5 = true := wi_t (by omega) (by omega)
  have w2 : wi s 0 258 = true := wi_t (by omega) (by omega)
  have w3 : wi n 0 15 = true := wi_t n0 n1
  have w4 : wi d 0 2 = true := wi_t (by omega) (by omega)
  have q : decide (0 < n) = true := decide_eq_true hn
  subst hs hd
  clear hb n0 n1 hk hl hn
  go_enter Tryz.func167, Tryz.ntmps167
  have hm := Own.nil w0
  go_wp2_with (first
      | (go_at_call 209; have _t := hm; refine (CB.out _).mono ?_; rintro e w1 ⟨rfl, hb⟩; replace hm := hm.call hb; clear hb _t)
      | (go_at_call 211; have _t := hm; refine (CK.out _).mono ?_; rintro e w1 ⟨rfl, hb⟩; replace hm := hm.call hb; clear hb _t)
      | (go_at_call 210; refine (lwithin _ _ _ _).mono ?_; rintro e w1 ⟨rfl, rfl⟩)
      | (with_reducible refine gBx ?_; (refine list_eff rfl (eff_box hm rfl rfl ?_); clear hm; intro w g hm))
      | (with_reducible refine gLd (t := 3) ?_; (refine wpList_run rfl (ld 0 hm rfl rfl rfl (ot rfl) (by first | exact (TS_at_s HL.out) | exact (TS_at_b HL.out) | exact (TS_at_n HL.out) | exact (TS_at_d HL.out))) ?_))
      | (with_reducible refine gLd (t := 141) ?_; (refine wpList_run rfl (lda 0 hm rfl rfl rfl (TS_ag HL.out)) ?_))
      | (with_reducible refine gLd (t := 139) ?_; (refine wpList_run rfl (ldp 0 hm rfl rfl rfl (TS_sub_l HL.out) (aggN HL.out) (TS_fit_l HL.out)) ?_)))
  go_ret
  exact ⟨rfl, hm.below⟩
set_option maxRecDepth 100000 in
set_option maxHeartbeats 1000000 in
theorem valid_z2 (l : List Int) (s b n d : Int) (w0 : World) (hl : l.length = 258) (hb : b = 4 ∨ b = 5) (hs : s = 0) (n0 : 0 ≤ n) (n1 : n ≤ 15) (hk : Known l s) (hd : d = 2) (hn : n < 15) : Calls Tryz.prog 167 #[.agg (TS l s b n d)] w0 (fun e w' => (e = .returned (.bool true)) ∧ Below w0.heap.size w0 w') := by
  have CB := Lib.hid (fun w => beg_no l s b n d hl (by omega) w)
  have CK := Lib.hid (fun w => known_ok l s b n d w hl hk)
  have HL := Lib.hid hl
  have w1 : wi b 4 5 = true := wi_t (by omega) (by omega)
  have w2 : wi s 0 258 = true := wi_t (by omega) (by omega)
  have w3 : wi n 0 15 = true := wi_t n0 n1
  have w4 : wi d 0 2 = true := wi_t (by omega) (by omega)
  have q : decide (n < 15) = true := decide_eq_true hn
  subst hs hd
  clear hb n0 n1 hk hl hn
  go_enter Tryz.func167, Tryz.ntmps167
  have hm := Own.nil w0
  go_wp2_with (first
      | (go_at_call 209; have _t := hm; refine (CB.out _).mono ?_; rintro e w1 ⟨rfl, hb⟩; replace hm := hm.call hb; clear hb _t)
      | (go_at_call 211; have _t := hm; refine (CK.out _).mono ?_; rintro e w1 ⟨rfl, hb⟩; replace hm := hm.call hb; clear hb _t)
      | (go_at_call 210; refine (lwithin _ _ _ _).mono ?_; rintro e w1 ⟨rfl, rfl⟩)
      | (with_reducible refine gBx ?_; (refine list_eff rfl (eff_box hm rfl rfl ?_); clear hm; intro w g hm))
      | (with_reducible refine gLd (t := 3) ?_; (refine wpList_run rfl (ld 0 hm rfl rfl rfl (ot rfl) (by first | exact (TS_at_s HL.out) | exact (TS_at_b HL.out) | exact (TS_at_n HL.out) | exact (TS_at_d HL.out))) ?_))
      | (with_reducible refine gLd (t := 141) ?_; (refine wpList_run rfl (lda 0 hm rfl rfl rfl (TS_ag HL.out)) ?_))
      | (with_reducible refine gLd (t := 139) ?_; (refine wpList_run rfl (ldp 0 hm rfl rfl rfl (TS_sub_l HL.out) (aggN HL.out) (TS_fit_l HL.out)) ?_)))
  go_ret
  exact ⟨rfl, hm.below⟩
set_option maxRecDepth 100000 in
set_option maxHeartbeats 1000000 in
theorem valid_pos (l : List Int) (k : Nat) (b n d : Int) (w0 : World) (hl : l.length = 258) (hb : b = 4 ∨ b = 5) (hk0 : k + 1 < 258) (n0 : 0 ≤ n) (n1 : n ≤ 15) (d0 : 0 ≤ d ∧ d ≤ 2) (hk : Known l (k + 1)) (ht : turn (gi l k) n d = true) : Calls Tryz.prog 167 #[.agg (TS l (k + 1) b n d)] w0 (fun e w' => (e = .returned (.bool true)) ∧ Below w0.heap.size w0 w') := by
  have CB := Lib.hid (fun w => beg_no l (k + 1) b n d hl (by omega) w)
  have CK := Lib.hid (fun w => known_ok l (k + 1) b n d w hl hk)
  have HL := Lib.hid hl
  have w1 : wi b 4 5 = true := wi_t (by omega) (by omega)
  have w2 : wi (k + 1) 0 258 = true := wi_t (by omega) (by omega)
  have w3 : wi n 0 15 = true := wi_t n0 n1
  have w4 : wi d 0 2 = true := wi_t (by omega) (by omega)
  have q1 : ((k : Int) + 1 == 0) = false := by simp; omega
  have q2 : ((k : Int) + 1 == 258) = false := by simp; omega
  have e1 : IntKind.i64.wrap ((k : Int) + 1 - 1) = k := by rw [IntWalk.i64_in _ (by omega)]; omega
  have CT : Hid (∀ w, Calls Tryz.prog 212 #[.int .i64 (gi l k), .int .i64 n, .int .i64 d] w fun e w' => (e = .returned (.bool true)) ∧ w' = w) := Lib.hid fun w => by have := turned_any (gi l k) n d w; rwa [ht] at this
  have hk1 : k < 258 := by omega
  have hx := (hk k hk1).1
  have e2 : IntKind.i64.wrap (gi l k) = gi l k := IntWalk.i64_in _ (by have := (hk k hk1).2; omega)
  have HG := Lib.hid (TS_at_l (s := (k : Int) + 1) (b := b) (n := n) (d := d) hl k hk1)
  clear hb n0 n1 hk hl hk0 ht d0
  generalize gi l k = x at *
  go_enter Tryz.func167, Tryz.ntmps167
  have hm := Own.nil w0
  go_upto_region 10 with (first
      | (go_at_call 209; have _t := hm; refine (CB.out _).mono ?_; rintro e w1 ⟨rfl, hb⟩; replace hm := hm.call hb; clear hb _t)
      | (go_at_call 211; have _t := hm; refine (CK.out _).mono ?_; rintro e w1 ⟨rfl, hb⟩; replace hm := hm.call hb; clear hb _t)
      | (go_at_call 210; refine (lwithin _ _ _ _).mono ?_; rintro e w1 ⟨rfl, rfl⟩)
      | (with_reducible refine gBx ?_; (refine list_eff rfl (eff_box hm rfl rfl ?_); clear hm; intro w g hm))
      | (with_reducible refine gLd (t := 3) ?_; (refine wpList_run rfl (ld 0 hm rfl rfl rfl (ot rfl) (by first | exact (TS_at_s HL.out) | exact (TS_at_b HL.out) | exact (TS_at_n HL.out) | exact (TS_at_d HL.out))) ?_))
      | (with_reducible refine gLd (t := 141) ?_; (refine wpList_run rfl (lda 0 hm rfl rfl rfl (TS_ag HL.out)) ?_))
      | (with_reducible refine gLd (t := 139) ?_; (refine wpList_run rfl (ldp 0 hm rfl rfl rfl (TS_sub_l HL.out) (aggN HL.out) (TS_fit_l HL.out)) ?_)))
  refine wp_region_KO hm 11 (.rds [(0, false), (1, true), (2, false), (3, false), (4, false), (5, true), (6, false), (7, false), (8, true), (9, false), (10, true)] (.brk 11 13 (.rds [(12, false)] .done))) rfl (by kernel_rfl) rfl (by kernel_rfl) (fun _ _ d _ _ h => by cases d <;> exact h) ?_
  clear hm
  intro w hm
  simp only [KT.rds]
  (refine K_p rfl rfl (fun W => by go_simp; rfl) ?_)
  try simp only [Act.put, List.setIfInBounds_toArray, List.set_cons_zero, List.set_cons_succ]
  (refine K_m rfl rfl (fun W hm => ld 0 hm rfl rfl rfl (ot rfl) (TS_at_s HL.out)) ?_)
  try simp only [Act.put, List.setIfInBounds_toArray, List.set_cons_zero, List.set_cons_succ]
  (refine K_p rfl rfl (fun W => by go_simp; (first | (rw [IntWalk.i64_in _ (by omega)]; done) | (rw [IntWalk.i64_in _ (by omega)]; rfl) | rfl)) ?_)
  try simp only [Act.put, List.setIfInBounds_toArray, List.set_cons_zero, List.set_cons_succ]
  (refine K_p rfl rfl (fun W => by go_simp; rfl) ?_)
  try simp only [Act.put, List.setIfInBounds_toArray, List.set_cons_zero, List.set_cons_succ]
  (refine K_p rfl rfl (fun W => by go_simp; rw [if_pos (by omega)]) ?_)
  try simp only [Act.put, List.setIfInBounds_toArray, List.set_cons_zero, List.set_cons_succ]
  (refine K_m rfl rfl (fun W hm => ld 0 hm rfl rfl rfl (ot rfl) HG.out) ?_)
  try simp only [Act.put, List.setIfInBounds_toArray, List.set_cons_zero, List.set_cons_succ]
  (refine K_p rfl rfl (fun W => by go_simp; rfl) ?_)
  try simp only [Act.put, List.setIfInBounds_toArray, List.set_cons_zero, List.set_cons_succ]
  (refine K_p rfl rfl (fun W => by go_simp; rfl) ?_)
  try simp only [Act.put, List.setIfInBounds_toArray, List.set_cons_zero, List.set_cons_succ]
  (refine K_m rfl rfl (fun W hm => ld 0 hm rfl rfl rfl (ot rfl) (TS_at_n HL.out)) ?_)
  try simp only [Act.put, List.setIfInBounds_toArray, List.set_cons_zero, List.set_cons_succ]
  (refine K_p rfl rfl (fun W => by go_simp; rfl) ?_)
  try simp only [Act.put, List.setIfInBounds_toArray, List.set_cons_zero, List.set_cons_succ]
  (refine K_m rfl rfl (fun W hm => ld 0 hm rfl rfl rfl (ot rfl) (TS_at_d HL.out)) ?_)
  try simp only [Act.put, List.setIfInBounds_toArray, List.set_cons_zero, List.set_cons_succ]
  refine brk_do rfl rfl (fun K hK => ?_)
  go_simp
  refine (CT.out _).mono ?_
  rintro e w1 ⟨rfl, rfl⟩
  refine hK _ _ ⟨fun W => Own _ W _ _, hm, ?_⟩
  clear hK K
  try simp only [Act.put, List.setIfInBounds_toArray, List.set_cons_zero, List.set_cons_succ]
  (refine K_p rfl rfl (fun W => by go_simp; rfl) ?_)
  try simp only [Act.put, List.setIfInBounds_toArray, List.set_cons_zero, List.set_cons_succ]
  refine K_done ?_
  go_simp
  go_wp2
  go_ret
  exact ⟨rfl, hm.below⟩
end Go.Proofs.YtkpbhdhkdonghaaGreat

namespace Go.Proofs.YtkpbhdhkdonghaaGreat
open Go Go.RowKit
theorem turn_cases {k n d : Int} (h : turn k n d = true) (d0 : 0 ≤ d) (d1 : d ≤ 2) : d = 0 ∧ k = n ∨ d = 1 ∧ k < n ∨ d = 2 ∧ n < k := by
  have : d = 0 ∨ d = 1 ∨ d = 2 := by omega
  rcases this with rfl | rfl | rfl <;> simp [turn] at h <;> omega
theorem ltvalid_ok (t : TT) (h : t.ok) (w : World) : Calls Tryz.prog 167 #[.agg t.v] w fun e w' => (e = .returned (.bool true)) ∧ Below w.heap.size w w' := by
  obtain ⟨l, s, b, n, d⟩ := t
  obtain ⟨hl, hs, hb, hn, hd, hk, hf, hz1, hz2, ht⟩ := h
  simp only [TT.v] at *
  by_cases h4 : b < 4
  · obtain ⟨rfl, rfl, rfl, hp⟩ := hf h4
    exact valid_first b n w (by omega) hn.1 hp
  by_cases h0 : s = 0
  · have : d = 0 ∨ d = 1 ∨ d = 2 := by omega
    rcases this with rfl | rfl | rfl
    · exact valid_z0 l s b n _ w hl (by omega) h0 hn.1 hn.2 hk rfl
    · exact valid_z1 l s b n _ w hl (by omega) h0 hn.1 hn.2 hk rfl (hz1 h0 rfl)
    · exact valid_z2 l s b n _ w hl (by omega) h0 hn.1 hn.2 hk rfl (hz2 h0 rfl)
  · obtain ⟨k, rfl⟩ : ∃ k : Nat, s = (k : Int) + 1 := ⟨(s - 1).toNat, by omega⟩
    have ht := ht (by omega)
    rw [show ((k : Int) + 1).toNat - 1 = k by omega] at ht
    exact valid_pos l k b n d w hl (by omega) (by omega) hn.1 hn.2 hd (by exact_mod_cast hk) ht
theorem ltnext_any (t : TT) (bit : Int) (h : t.ok) (h0 : 0 ≤ bit) (h1 : bit ≤ 1) (w : World) : Calls Tryz.prog 144 #[.agg t.v, .int .i64 bit] w fun e w' => (e = .returned (.tuple #[.agg (t.next bit).1.v, .bool (t.next bit).2])) ∧ Below w.heap.size w w' := by
  obtain ⟨l, s, b, n, d⟩ := t
  obtain ⟨hl, hs, hb, hn, hd, hk, hf, hz1, hz2, ht⟩ := h
  simp only [TT.v, TT.next] at *
  by_cases h4 : b < 4
  · rw [if_pos h4]
    exact next_first l s b n d bit w hl (by omega) hn.1 hn.2 h0 h1
  rw [if_neg h4]
  have hbit : bit = 0 ∨ bit = 1 := by omega
  by_cases h5 : b = 4
  · subst h5
    rw [if_pos rfl]
    rcases hbit with rfl | rfl
    · rw [if_pos rfl]
      obtain ⟨k, rfl⟩ : ∃ k : Nat, s = (k : Int) := ⟨s.toNat, by omega⟩
      rw [Int.toNat_natCast]
      by_cases hl1 : k + 1 < 258
      · have e : decide ((k : Int) + 1 < 258) = true := decide_eq_true (by omega)
        rw [e, Bool.true_or]
        exact next_set l k n d w hl (by omega) hn.1 hn.2 hl1
      · have e : decide ((k : Int) + 1 < 258) = false := decide_eq_false (by omega)
        rw [e, Bool.false_or]
        refine next_last l k n d w hl (by omega) hn.1 hn.2 (fun x hx => ?_) (by omega)
        obtain ⟨i, hi, rfl⟩ := List.mem_iff_getElem.1 hx
        have := hk i (by omega)
        rw [gi_eq l i hi] at this
        omega
    · rw [if_neg (by decide)]
      exact next_more l s 4 n d 1 w hl rfl rfl
  · rw [if_neg h5]
    rcases hbit with rfl | rfl
    · rw [if_pos rfl]
      exact next_up l s b n d 0 w hl (by omega) rfl hn.1 hn.2
    · rw [if_neg (by decide)]
      exact next_down l s b n d 1 w hl (by omega) rfl hn.1 hn.2
theorem turn_same (x : Int) : turn x x 0 = true := by simp [turn]
theorem gi_put {l : List Int} {i j : Nat} {x : Int} (h : i < l.length) : gi (l.set i x) j = if j = i then x else gi l j := by
  simp only [gi, List.getD, List.getElem?_set]
  by_cases e : i = j
  · subst e; simp [h]
  · rw [if_neg e, if_neg (fun h => e h.symm)]
theorem TT.ok.next {t : TT} {bit : Int} (h : t.ok) (h0 : 0 ≤ bit) (h1 : bit ≤ 1) (hk : (t.next bit).2 = true) : (t.next bit).1.s < 258 ∧ (t.next bit).1.ok ∨ (t.next bit).1.s = 258 ∧ (t.next bit).1.l.length = 258 ∧ Bytes (t.next bit).1.l ∧ ktab (t.next bit).1.l = true := by
  obtain ⟨l, s, b, n, d⟩ := t
  obtain ⟨hl, hs, hb, hn, hd, hkn, hf, hz1, hz2, ht⟩ := h
  simp only [TT.next] at *
  have hbit : bit = 0 ∨ bit = 1 := by omega
  by_cases h4 : b < 4
  · rw [if_pos h4] at hk ⊢
    obtain ⟨rfl, rfl, rfl, hp⟩ := hf h4
    refine .inl ⟨by show (0 : Int) < 258; omega, hl, hs, ?_, ?_, hd, hkn, ?_, ?_, ?_, ?_⟩
    · simp only; omega
    · have : b = 0 ∨ b = 1 ∨ b = 2 ∨ b = 3 := by omega
      rcases this with rfl | rfl | rfl | rfl <;> simp at hp ⊢ <;> omega
    · intro _
      refine ⟨rfl, rfl, rfl, ?_⟩
      have : b = 0 ∨ b = 1 ∨ b = 2 ∨ b = 3 := by omega
      rcases this with rfl | rfl | rfl | rfl <;> simp at hp ⊢ <;> omega
    · intro _ h; simp at h
    · intro _ h; simp at h
    · intro h; simp at h
  rw [if_neg h4] at hk ⊢
  by_cases h5 : b = 4
  · subst h5
    rw [if_pos rfl] at hk ⊢
    rcases hbit with rfl | rfl
    · rw [if_pos rfl] at hk ⊢
      obtain ⟨k, rfl⟩ : ∃ k : Nat, s = (k : Int) := ⟨s.toNat, by omega⟩
      rw [Int.toNat_natCast] at hk ⊢
      have hkl : k < l.length := by omega
      have hK : Known (l.set k n) ((k : Int) + 1) := by
        intro j hj
        rw [gi_put hkl]
        have := hkn j hj
        by_cases e : j = k
        · rw [if_pos e]; omega
        · rw [if_neg e]; omega
      have hB : Bytes (l.set k n) := by
        intro x hx
        obtain ⟨i, hi, rfl⟩ := List.mem_iff_getElem.1 hx
        rw [List.length_set] at hi
        have := hK i (by omega)
        rw [gi_eq _ i (by rw [List.length_set]; exact hi)] at this
        omega
      by_cases hl1 : k + 1 < 258
      · refine .inl ⟨by show (k : Int) + 1 < 258; omega, by simp [hl], by simp only; omega, by simp, hn, by simp, hK, ?_, ?_, ?_, ?_⟩
        · intro h; simp at h
        · intro _ h; simp at h
        · intro _ h; simp at h
        · intro _
          simp only
          rw [show ((k : Int) + 1).toNat - 1 = k by omega, gi_put hkl, if_pos rfl]
          exact turn_same n
      · have e : decide ((k : Int) + 1 < 258) = false := decide_eq_false (by omega)
        rw [e, Bool.false_or] at hk
        exact .inr ⟨by show (k : Int) + 1 = 258; omega, by simp [hl], hB, hk⟩
    · rw [if_neg (by decide)] at hk ⊢
      exact .inl ⟨hs.2, hl, hs, by simp, hn, hd, hkn, fun h => by simp at h, hz1, hz2, ht⟩
  · rw [if_neg h5] at hk ⊢
    rcases hbit with rfl | rfl
    · rw [if_pos rfl] at hk ⊢
      have hk := of_decide_eq_true hk
      refine .inl ⟨hs.2, hl, hs, by simp, by simp only; omega, by simp, hkn, fun h => by simp at h, ?_, ?_, ?_⟩
      · intro _ _; simp only; omega
      · intro _ h; simp at h
      · intro hp
        have := turn_cases (ht hp) hd.1 hd.2
        have hlt : gi l (s.toNat - 1) < n + 1 := by omega
        exact decide_eq_true hlt
    · rw [if_neg (by decide)] at hk ⊢
      have hk := of_decide_eq_true hk
      refine .inl ⟨hs.2, hl, hs, by simp, by simp only; omega, by simp, hkn, fun h => by simp at h, ?_, ?_, ?_⟩
      · intro _ h; simp at h
      · intro _ _; simp only; omega
      · intro hp
        have := turn_cases (ht hp) hd.1 hd.2
        have hlt : n - 1 < gi l (s.toNat - 1) := by omega
        exact decide_eq_true hlt
def TT0 : TT := ⟨z258, 0, 0, 0, 0⟩
theorem known_z258 (s : Int) : Known z258 s := fun k hk => by
  have : gi z258 k = 0 := by rw [gi_eq z258 k (by rw [len_z258]; exact hk)]; exact mem_z258 (List.getElem_mem _)
  omega
theorem TT0_ok : TT0.ok := ⟨len_z258, by decide, by decide, by decide, by decide, known_z258 0, fun _ => ⟨rfl, rfl, rfl, by decide⟩, fun _ h => by simp [TT0] at h, fun _ h => by simp [TT0] at h, fun h => by simp [TT0] at h⟩
end Go.Proofs.YtkpbhdhkdonghaaGreat

namespace Go.Proofs.YtkpbhdhkdonghaaGreat
open Go Go.RowKit
set_option maxRecDepth 100000 in
set_option maxHeartbeats 1000000 in
theorem ltstep_bad (l : List Int) (s b n d bit : Int) (l2 : List Int) (s2 b2 n2 d2 : Int) (ok : Bool) (w0 : World) (hl : l.length = 258) (hl2 : l2.length = 258) (CV : Hid (∀ w, Calls Tryz.prog 167 #[.agg (TS l s b n d)] w fun e w' => (e = .returned (.bool true)) ∧ Below w.heap.size w w')) (CN : Hid (∀ w, Calls Tryz.prog 144 #[.agg (TS l s b n d), .int .i64 bit] w fun e w' => (e = .returned (.tuple #[.agg (TS l2 s2 b2 n2 d2), .bool ok])) ∧ Below w.heap.size w w')) (hs : s < 258) (hbit : bit = 0 ∨ bit = 1) (hok : ok = false) : Calls Tryz.prog 126 #[.agg (TS l s b n d), .int .i64 bit] w0 (fun e w' => (e = .returned (.tuple #[.agg (TS z258 0 0 0 0), .bool (false), .int .i64 100])) ∧ Below w0.heap.size w0 w') := by
  have HL := Lib.hid hl
  have HM := Lib.hid hl2
  have q1 : (s == 258) = false := by simp; omega
  have q2 : bit / 2 = 0 := by omega
  clear hl hl2 hs
  subst hok
  rcases hbit with rfl | rfl
  all_goals
    go_enter Tryz.func126, Tryz.ntmps126
    have hm := Own.nil w0
    go_wp2_with (first
        | (go_at_call 167; have _t := hm; refine (CV.out _).mono ?_; rintro e w1 ⟨rfl, hb⟩; replace hm := hm.call hb; clear hb _t)
        | (go_at_call 144; have _t := hm; refine (CN.out _).mono ?_; rintro e w1 ⟨rfl, hb⟩; replace hm := hm.call hb; clear hb _t)
        | (with_reducible refine gBx ?_; (refine list_eff rfl (eff_box hm rfl rfl ?_); clear hm; intro w g hm))
        | (with_reducible refine gAl ?_; (refine list_eff rfl (eff_alloc hm rfl zrTS ?_); clear hm; intro w g2 hm))
        | (with_reducible refine gLd (t := 3) ?_; (refine wpList_run rfl (ld 1 hm rfl rfl rfl (ot rfl) (by first | exact (TS_at_s HL.out) | exact (TS_at_b HL.out) | exact (TS_at_n HL.out) | exact (TS_at_d HL.out))) ?_))
        | (with_reducible refine gLd (t := 141) ?_; (refine wpList_run rfl (lda 1 hm rfl rfl rfl (TS_ag HL.out)) ?_))
        | (with_reducible refine gLd (t := 141) ?_; (refine wpList_run rfl (lda 0 hm rfl rfl rfl (TS_ag len_z258)) ?_))
        | (with_reducible refine gSt (t := 141) ?_; (first | (refine list_eff rfl (eff_store 1 hm rfl rfl (ev_tmp rfl) rfl (TS_ag HM.out) (size_TSS HM.out HL.out) (TS_one _ _ _ _ _) ?_); clear hm; intro w hm; try simp only [List.set] at hm) | (refine list_eff rfl (eff_store 0 hm rfl rfl (ev_tmp rfl) rfl (TS_ag len_z258) rfl (TS_one _ _ _ _ _) ?_); clear hm; intro w hm; try simp only [List.set] at hm))))
    refine bodyPost_ret (results_agg3 rfl rfl (hm.row 0 rfl) (TS_ag len_z258)) rfl ⟨rfl, hm.below⟩
set_option maxRecDepth 100000 in
set_option maxHeartbeats 1000000 in
theorem ltstep_ok (l : List Int) (s b n d bit : Int) (l2 : List Int) (s2 b2 n2 d2 : Int) (ok : Bool) (w0 : World) (hl : l.length = 258) (hl2 : l2.length = 258) (CV : Hid (∀ w, Calls Tryz.prog 167 #[.agg (TS l s b n d)] w fun e w' => (e = .returned (.bool true)) ∧ Below w.heap.size w w')) (CN : Hid (∀ w, Calls Tryz.prog 144 #[.agg (TS l s b n d), .int .i64 bit] w fun e w' => (e = .returned (.tuple #[.agg (TS l2 s2 b2 n2 d2), .bool ok])) ∧ Below w.heap.size w w')) (hs : s < 258) (hbit : bit = 0 ∨ bit = 1) (hok : ok = true) : Calls Tryz.prog 126 #[.agg (TS l s b n d), .int .i64 bit] w0 (fun e w' => (e = .returned (.tuple #[.agg (TS l2 s2 b2 n2 d2), .bool (s2 == 258), .int .i64 0])) ∧ Below w0.heap.size w0 w') := by
  have HL := Lib.hid hl
  have HM := Lib.hid hl2
  have q1 : (s == 258) = false := by simp; omega
  have q2 : bit / 2 = 0 := by omega
  clear hl hl2 hs
  subst hok
  rcases hbit with rfl | rfl
  all_goals
    go_enter Tryz.func126, Tryz.ntmps126
    have hm := Own.nil w0
    go_upto_region 6 with (first
        | (go_at_call 167; have _t := hm; refine (CV.out _).mono ?_; rintro e w1 ⟨rfl, hb⟩; replace hm := hm.call hb; clear hb _t)
        | (go_at_call 144; have _t := hm; refine (CN.out _).mono ?_; rintro e w1 ⟨rfl, hb⟩; replace hm := hm.call hb; clear hb _t)
        | (with_reducible refine gBx ?_; (refine list_eff rfl (eff_box hm rfl rfl ?_); clear hm; intro w g hm))
        | (with_reducible refine gAl ?_; (refine list_eff rfl (eff_alloc hm rfl zrTS ?_); clear hm; intro w g2 hm))
        | (with_reducible refine gLd (t := 3) ?_; (refine wpList_run rfl (ld 1 hm rfl rfl rfl (ot rfl) (by first | exact (TS_at_s HL.out) | exact (TS_at_b HL.out) | exact (TS_at_n HL.out) | exact (TS_at_d HL.out))) ?_))
        | (with_reducible refine gLd (t := 141) ?_; (refine wpList_run rfl (lda 1 hm rfl rfl rfl (TS_ag HL.out)) ?_))
        | (with_reducible refine gLd (t := 141) ?_; (refine wpList_run rfl (lda 0 hm rfl rfl rfl (TS_ag len_z258)) ?_))
        | (with_reducible refine gSt (t := 141) ?_; (first | (refine list_eff rfl (eff_store 1 hm rfl rfl (ev_tmp rfl) rfl (TS_ag HM.out) (size_TSS HM.out HL.out) (TS_one _ _ _ _ _) ?_); clear hm; intro w hm; try simp only [List.set] at hm) | (refine list_eff rfl (eff_store 0 hm rfl rfl (ev_tmp rfl) rfl (TS_ag len_z258) rfl (TS_one _ _ _ _ _) ?_); clear hm; intro w hm; try simp only [List.set] at hm))))
    refine wp_region_KB hm 7 (.rds [(0, true), (1, false), (2, true), (3, false)] (.one 4 (.rds [(5, false), (6, false)] .done))) rfl (by kernel_rfl) rfl (by kernel_rfl) (fun _ _ d _ _ h => by cases d <;> exact h) ?_
    clear hm
    intro w hm
    simp only [KT.rds]
    (refine K_m rfl rfl (fun W hb => have hm := hb.own; lda 0 hm rfl rfl rfl (TS_ag HM.out)) ?_)
    try simp only [Act.put, List.setIfInBounds_toArray, List.set_cons_zero, List.set_cons_succ]
    (refine K_p rfl rfl (fun W => by go_simp; rfl) ?_)
    try simp only [Act.put, List.setIfInBounds_toArray, List.set_cons_zero, List.set_cons_succ]
    (refine K_m rfl rfl (fun W hb => have hm := hb.own; ld 0 hm rfl rfl rfl (ot rfl) (TS_at_s HM.out)) ?_)
    try simp only [Act.put, List.setIfInBounds_toArray, List.set_cons_zero, List.set_cons_succ]
    (refine K_p rfl rfl (fun W => by go_simp; rfl) ?_)
    try simp only [Act.put, List.setIfInBounds_toArray, List.set_cons_zero, List.set_cons_succ]
    (refine one_eff rfl rfl (eff_store 0 hm rfl rfl (ev_tmp rfl) rfl (TS_ag HM.out) (size_TSS HM.out len_z258) (TS_one _ _ _ _ _) ?_))
    clear hm
    intro w hm
    try simp only [puts, List.cons_append, List.nil_append, List.set, List.eraseIdx, List.setIfInBounds_toArray, List.set_cons_zero, List.set_cons_succ] at hm
    refine ⟨But _ _ _ _, fun _ h => h, But.mk hm, ?_⟩
    try simp only [Act.put, List.setIfInBounds_toArray, List.set_cons_zero, List.set_cons_succ]
    (refine K_p rfl rfl (fun W => by go_simp; rfl) ?_)
    try simp only [Act.put, List.setIfInBounds_toArray, List.set_cons_zero, List.set_cons_succ]
    (refine K_p rfl rfl (fun W => by go_simp; rfl) ?_)
    try simp only [Act.put, List.setIfInBounds_toArray, List.set_cons_zero, List.set_cons_succ]
    refine K_done ?_
    go_simp
    go_wp2
    refine bodyPost_ret (results_agg3 rfl rfl (hm.row 0 rfl) (TS_ag HM.out)) rfl ⟨rfl, hm.below⟩
end Go.Proofs.YtkpbhdhkdonghaaGreat

namespace Go.Proofs.YtkpbhdhkdonghaaGreat
open Go Go.RowKit
theorem ltstep_any (t : TT) (bit : Int) (h : t.ok) (h0 : 0 ≤ bit) (h1 : bit ≤ 1) (w : World) : Calls Tryz.prog 126 #[.agg t.v, .int .i64 bit] w fun e w' => (e = .returned (if (t.next bit).2 then .tuple #[.agg (t.next bit).1.v, .bool ((t.next bit).1.s == 258), .int .i64 0] else .tuple #[.agg TT0.v, .bool false, .int .i64 100])) ∧ Below w.heap.size w w' := by
  have CV := Lib.hid (fun w => ltvalid_ok t h w)
  have CN := Lib.hid (fun w => ltnext_any t bit h h0 h1 w)
  have hl2 : (t.next bit).1.l.length = 258 := by
    obtain ⟨l, s, b, n, d⟩ := t
    have := h.len
    simp only [TT.next] at *
    split
    · exact this
    · split
      · split
        · rw [List.length_set]; exact this
        · exact this
      · split <;> exact this
  generalize t.next bit = p at *
  obtain ⟨t2, ok⟩ := p
  cases ok with
  | true => exact ltstep_ok t.l t.s t.b t.n t.d bit t2.l t2.s t2.b t2.n t2.d true w h.len hl2 CV CN h.sym.2 (by omega) rfl
  | false => exact ltstep_bad t.l t.s t.b t.n t.d bit t2.l t2.s t2.b t2.n t2.d false w h.len hl2 CV CN h.sym.2 (by omega) rfl
def ltread (t : TT) : List Int → Int → List Int × Int × Int
  | [], _ => (z258, 0, 50)
  | b :: r, i => if (t.next b).2 then if (t.next b).1.s = 258 then ((t.next b).1.l, i + 1, 0) else ltread (t.next b).1 r (i + 1) else (z258, 0, 100)
def Bin (l : List Int) : Prop := ∀ x ∈ l, 0 ≤ x ∧ x ≤ 1
theorem Bin.gi {l : List Int} (h : Bin l) (k : Nat) (hk : k < l.length) : 0 ≤ gi l k ∧ gi l k ≤ 1 := h _ (by rw [gi_eq l k hk]; exact List.getElem_mem _)
theorem zr139' (w : World) : (zeroValue 139).run Tryz.prog w = .ok (.agg (J .u8 z258)) w := by kernel_rfl
theorem size_JJ {m l : List Int} (h : l.length = 258) (k : m.length = 258) : (J .u8 l).size = (J .u8 m).size := by rw [size_J, size_J, h, k]
set_option maxRecDepth 100000 in
set_option maxHeartbeats 2000000 in
theorem ltread_any (v : Value) (l : List Int) (w0 : World) (hv : In .i64 w0 v l) (hb : Bin l) (hn : l.length ≤ 10000000) : Calls Tryz.prog 103 #[v] w0 fun e w' => (e = .returned (.tuple #[.agg (J .u8 (ltread TT0 l 0).1), .int .i64 (ltread TT0 l 0).2.1, .int .i64 (ltread TT0 l 0).2.2])) ∧ Below w0.heap.size w0 w' := by
  obtain ⟨ad, cp, rfl, hc⟩ := hv
  obtain ⟨i3, hE⟩ := el39
  have HE := Lib.hid hE
  have HC := Lib.hid hc
  have HB := Lib.hid hb
  clear hE hc hb
  go_enter Tryz.func103, Tryz.ntmps103
  have hm := Own.nil w0
  go_wp2_with (first
    | (with_reducible refine gAl (t := 139) ?_; (refine list_eff rfl (eff_alloc hm rfl zr139' ?_); clear hm; intro w g2 hm))
    | (with_reducible refine gAl (t := 141) ?_; (refine list_eff rfl (eff_alloc hm rfl zrTS ?_); clear hm; intro w g5 hm)))
  go_loopw [12] (fun u wr => ∃ (k : Nat) (t : TT), k ≤ l.length ∧ u = .int .i64 k ∧ t.ok ∧ ltread TT0 l 0 = ltread t (l.drop k) k ∧ Own w0 wr [(g5, t.v), (g2, J .u8 z258)] []) (fun u _ => l.length - (intOf u).toNat)
  case atStart => exact ⟨0, TT0, by omega, rfl, TT0_ok, rfl, hm⟩
  case round =>
    clear hm
    obtain ⟨k, t, hk, rfl, ht, hR, hm⟩ := hrel
    by_cases hlt : k < l.length
    · obtain ⟨A, rfl, hA0⟩ := HC.out k hlt
      have hA : ∀ W, Below w0.heap.size w0 W → W.cell? (A.add k) = some (.int .i64 (gi l k)) := fun W h => (h.cell (block_lt_of_cell hA0)).trans hA0
      have hs := HB.out.gi k hlt
      rw [List.drop_eq_getElem_cons hlt, ← gi_eq l k hlt, ltread] at hR
      have CN := Lib.hid (fun w => ltnext_any t (gi l k) ht hs.1 hs.2 w)
      have hX := ht.next hs.1 hs.2
      have hl2 : (t.next (gi l k)).1.l.length = 258 := by
        have := ht.len
        simp only [TT.next]
        split
        · exact this
        · split
          · split
            · rw [List.length_set]; exact this
            · exact this
          · split <;> exact this
      have q1 : gi l k / 2 = 0 := by omega
      have HT := Lib.hid ht.len
      have HR := Lib.hid hR
      clear hA0 hR hs
      generalize gi l k = x at *
      generalize t.next x = p at *
      obtain ⟨t2, ok⟩ := p
      have HM := Lib.hid hl2
      have HX := Lib.hid hX
      clear hl2 hX ht
      obtain ⟨l1, s1, b1, n1, d1⟩ := t
      obtain ⟨l2, s2, b2, n2, d2⟩ := t2
      simp only [TT.v] at *
      cases ok with
      | false =>
        have hR := HR.out
        rw [if_neg (by simp)] at hR
        have HRR := Lib.hid hR
        clear hR HR HX
        go_wp2_with (first
            | (go_at_call 144; have _t := hm; refine (CN.out _).mono ?_; rintro e w1 ⟨rfl, hb⟩; replace hm := hm.call hb; clear hb _t)
            | (with_reducible refine gAl (t := 139) ?_; (refine list_eff rfl (eff_alloc hm rfl zr139' ?_); clear hm; intro w g2 hm))
            | (with_reducible refine gAl (t := 141) ?_; (refine list_eff rfl (eff_alloc hm rfl zrTS ?_); clear hm; intro w g8 hm))
            | (with_reducible refine gIa (t := 124) ?_; (refine wpList_run rfl (exec_indexAddr_sl rfl HE.out rfl rfl rfl hlt) ?_))
            | (with_reducible refine gLd (t := 3) ?_; (first | (refine wpList_run rfl (exec_loadaddr rfl rfl one3 (hA _ hm.below)) ?_) | (refine wpList_run rfl (ld 1 hm rfl rfl rfl (ot rfl) (TS_at_s HM.out)) ?_)))
            | (with_reducible refine gLd (t := 141) ?_; (refine wpList_run rfl (lda 0 hm rfl rfl rfl (by first | exact (TS_ag HT.out) | exact (TS_ag HM.out))) ?_))
            | (with_reducible refine gLd (t := 139) ?_; (first | (refine wpList_run rfl (lda 1 hm rfl rfl rfl (aggN len_z258)) ?_) | (refine wpList_run rfl (lda 2 hm rfl rfl rfl (aggN len_z258)) ?_) | (refine wpList_run rfl (ldp 1 hm rfl rfl rfl (TS_sub_l HM.out) (aggN HM.out) (TS_fit_l HM.out)) ?_)))
            | (with_reducible refine gSt (t := 141) ?_; (first | (refine list_eff rfl (eff_store 0 hm rfl rfl (ev_tmp rfl) rfl (TS_ag HM.out) (size_TSS HM.out len_z258) (TS_one _ _ _ _ _) ?_); clear hm; intro w hm; try simp only [puts, List.cons_append, List.nil_append, List.set] at hm) | (refine list_eff rfl (eff_store 1 hm rfl rfl (ev_tmp rfl) rfl (TS_ag HM.out) (size_TSS HM.out HT.out) (TS_one _ _ _ _ _) ?_); clear hm; intro w hm; try simp only [puts, List.cons_append, List.nil_append, List.set] at hm)))
            | (with_reducible refine gSt (t := 139) ?_; (first | (refine list_eff rfl (eff_store 1 hm rfl rfl (ev_tmp rfl) rfl (aggN len_z258) rfl (J_one _ _) ?_); clear hm; intro w hm; try simp only [puts, List.cons_append, List.nil_append, List.set] at hm) | (refine list_eff rfl (eff_store 2 hm rfl rfl (ev_tmp rfl) rfl (aggN len_z258) rfl (J_one _ _) ?_); clear hm; intro w hm; try simp only [puts, List.cons_append, List.nil_append, List.set] at hm) | (refine list_eff rfl (eff_store 2 hm rfl rfl (ev_tmp rfl) rfl (aggN HM.out) (size_JJ HM.out len_z258) (J_one _ _) ?_); clear hm; intro w hm; try simp only [puts, List.cons_append, List.nil_append, List.set] at hm))))
        refine bodyPost_ret (results_agg3 rfl rfl (hm.row 2 rfl) (aggN len_z258)) rfl ⟨by rw [HRR.out]; rfl, hm.below⟩
      | true =>
        have hX := HX.out rfl
        have hR := HR.out
        rw [if_pos rfl] at hR
        clear HX HR
        by_cases he : s2 = 258
        · subst he
          rw [if_pos rfl] at hR
          have HRR := Lib.hid hR
          clear hR hX
          have w1 : IntKind.i64.wrap ((k : Int) + 1) = (k : Int) + 1 := IntWalk.i64_in _ (by omega)
          go_wp2_with (first
              | (go_at_call 144; have _t := hm; refine (CN.out _).mono ?_; rintro e w1 ⟨rfl, hb⟩; replace hm := hm.call hb; clear hb _t)
              | (with_reducible refine gAl (t := 139) ?_; (refine list_eff rfl (eff_alloc hm rfl zr139' ?_); clear hm; intro w g2 hm))
              | (with_reducible refine gAl (t := 141) ?_; (refine list_eff rfl (eff_alloc hm rfl zrTS ?_); clear hm; intro w g8 hm))
              | (with_reducible refine gIa (t := 124) ?_; (refine wpList_run rfl (exec_indexAddr_sl rfl HE.out rfl rfl rfl hlt) ?_))
              | (with_reducible refine gLd (t := 3) ?_; (first | (refine wpList_run rfl (exec_loadaddr rfl rfl one3 (hA _ hm.below)) ?_) | (refine wpList_run rfl (ld 1 hm rfl rfl rfl (ot rfl) (TS_at_s HM.out)) ?_)))
              | (with_reducible refine gLd (t := 141) ?_; (refine wpList_run rfl (lda 0 hm rfl rfl rfl (by first | exact (TS_ag HT.out) | exact (TS_ag HM.out))) ?_))
              | (with_reducible refine gLd (t := 139) ?_; (first | (refine wpList_run rfl (lda 1 hm rfl rfl rfl (aggN len_z258)) ?_) | (refine wpList_run rfl (lda 2 hm rfl rfl rfl (aggN len_z258)) ?_) | (refine wpList_run rfl (ldp 1 hm rfl rfl rfl (TS_sub_l HM.out) (aggN HM.out) (TS_fit_l HM.out)) ?_)))
              | (with_reducible refine gSt (t := 141) ?_; (first | (refine list_eff rfl (eff_store 0 hm rfl rfl (ev_tmp rfl) rfl (TS_ag HM.out) (size_TSS HM.out len_z258) (TS_one _ _ _ _ _) ?_); clear hm; intro w hm; try simp only [puts, List.cons_append, List.nil_append, List.set] at hm) | (refine list_eff rfl (eff_store 1 hm rfl rfl (ev_tmp rfl) rfl (TS_ag HM.out) (size_TSS HM.out HT.out) (TS_one _ _ _ _ _) ?_); clear hm; intro w hm; try simp only [puts, List.cons_append, List.nil_append, List.set] at hm)))
              | (with_reducible refine gSt (t := 139) ?_; (first | (refine list_eff rfl (eff_store 1 hm rfl rfl (ev_tmp rfl) rfl (aggN len_z258) rfl (J_one _ _) ?_); clear hm; intro w hm; try simp only [puts, List.cons_append, List.nil_append, List.set] at hm) | (refine list_eff rfl (eff_store 2 hm rfl rfl (ev_tmp rfl) rfl (aggN len_z258) rfl (J_one _ _) ?_); clear hm; intro w hm; try simp only [puts, List.cons_append, List.nil_append, List.set] at hm) | (refine list_eff rfl (eff_store 2 hm rfl rfl (ev_tmp rfl) rfl (aggN HM.out) (size_JJ HM.out len_z258) (J_one _ _) ?_); clear hm; intro w hm; try simp only [puts, List.cons_append, List.nil_append, List.set] at hm))))
          refine bodyPost_ret (results_agg3 rfl rfl (hm.row 2 rfl) (aggN HM.out)) rfl ⟨by rw [HRR.out]; rfl, hm.below⟩
        · have q2 : (s2 == 258) = false := by simpa using he
          rw [if_neg he] at hR
          rcases hX with hX | hX
          · have HX := Lib.hid hX
            have HR := Lib.hid hR
            clear hX hR he
            go_wp2_with (first
                | (go_at_call 144; have _t := hm; refine (CN.out _).mono ?_; rintro e w1 ⟨rfl, hb⟩; replace hm := hm.call hb; clear hb _t)
                | (with_reducible refine gAl (t := 139) ?_; (refine list_eff rfl (eff_alloc hm rfl zr139' ?_); clear hm; intro w g2 hm))
                | (with_reducible refine gAl (t := 141) ?_; (refine list_eff rfl (eff_alloc hm rfl zrTS ?_); clear hm; intro w g8 hm))
                | (with_reducible refine gIa (t := 124) ?_; (refine wpList_run rfl (exec_indexAddr_sl rfl HE.out rfl rfl rfl hlt) ?_))
                | (with_reducible refine gLd (t := 3) ?_; (first | (refine wpList_run rfl (exec_loadaddr rfl rfl one3 (hA _ hm.below)) ?_) | (refine wpList_run rfl (ld 1 hm rfl rfl rfl (ot rfl) (TS_at_s HM.out)) ?_)))
                | (with_reducible refine gLd (t := 141) ?_; (refine wpList_run rfl (lda 0 hm rfl rfl rfl (by first | exact (TS_ag HT.out) | exact (TS_ag HM.out))) ?_))
                | (with_reducible refine gLd (t := 139) ?_; (first | (refine wpList_run rfl (lda 1 hm rfl rfl rfl (aggN len_z258)) ?_) | (refine wpList_run rfl (lda 2 hm rfl rfl rfl (aggN len_z258)) ?_) | (refine wpList_run rfl (ldp 1 hm rfl rfl rfl (TS_sub_l HM.out) (aggN HM.out) (TS_fit_l HM.out)) ?_)))
                | (with_reducible refine gSt (t := 141) ?_; (first | (refine list_eff rfl (eff_store 0 hm rfl rfl (ev_tmp rfl) rfl (TS_ag HM.out) (size_TSS HM.out len_z258) (TS_one _ _ _ _ _) ?_); clear hm; intro w hm; try simp only [puts, List.cons_append, List.nil_append, List.set] at hm) | (refine list_eff rfl (eff_store 1 hm rfl rfl (ev_tmp rfl) rfl (TS_ag HM.out) (size_TSS HM.out HT.out) (TS_one _ _ _ _ _) ?_); clear hm; intro w hm; try simp only [puts, List.cons_append, List.nil_append, List.set] at hm)))
                | (with_reducible refine gSt (t := 139) ?_; (first | (refine list_eff rfl (eff_store 1 hm rfl rfl (ev_tmp rfl) rfl (aggN len_z258) rfl (J_one _ _) ?_); clear hm; intro w hm; try simp only [puts, List.cons_append, List.nil_append, List.set] at hm) | (refine list_eff rfl (eff_store 2 hm rfl rfl (ev_tmp rfl) rfl (aggN len_z258) rfl (J_one _ _) ?_); clear hm; intro w hm; try simp only [puts, List.cons_append, List.nil_append, List.set] at hm) | (refine list_eff rfl (eff_store 2 hm rfl rfl (ev_tmp rfl) rfl (aggN HM.out) (size_JJ HM.out len_z258) (J_one _ _) ?_); clear hm; intro w hm; try simp only [puts, List.cons_append, List.nil_append, List.set] at hm))))
            go_roundw
            case rel => exact ⟨k + 1, ⟨l2, s2, b2, n2, d2⟩, by omega, by go_num, HX.out.2, HR.out, hm.dropRow⟩
            case measure => simp [intOf]; omega
          · exact (he hX.1).elim
    · obtain rfl : l.length = k := by omega
      rw [List.drop_length, ltread] at hR
      have HRR := Lib.hid hR
      clear hR
      go_wp2_with (first
          | (go_at_call 144; have _t := hm; refine (CN.out _).mono ?_; rintro e w1 ⟨rfl, hb⟩; replace hm := hm.call hb; clear hb _t)
          | (with_reducible refine gAl (t := 139) ?_; (refine list_eff rfl (eff_alloc hm rfl zr139' ?_); clear hm; intro w g2 hm))
          | (with_reducible refine gAl (t := 141) ?_; (refine list_eff rfl (eff_alloc hm rfl zrTS ?_); clear hm; intro w g8 hm))
          | (with_reducible refine gIa (t := 124) ?_; (refine wpList_run rfl (exec_indexAddr_sl rfl HE.out rfl rfl rfl hlt) ?_))
          | (with_reducible refine gLd (t := 3) ?_; (first | (refine wpList_run rfl (exec_loadaddr rfl rfl one3 hA) ?_) | (refine wpList_run rfl (ld 1 hm rfl rfl rfl (ot rfl) (TS_at_s HM.out)) ?_)))
          | (with_reducible refine gLd (t := 141) ?_; (refine wpList_run rfl (lda 0 hm rfl rfl rfl (by first | exact (TS_ag HT.out) | exact (TS_ag HM.out))) ?_))
          | (with_reducible refine gLd (t := 139) ?_; (first | (refine wpList_run rfl (lda 1 hm rfl rfl rfl (aggN len_z258)) ?_) | (refine wpList_run rfl (lda 2 hm rfl rfl rfl (aggN len_z258)) ?_) | (refine wpList_run rfl (ldp 1 hm rfl rfl rfl (TS_sub_l HM.out) (aggN HM.out) (TS_fit_l HM.out)) ?_)))
          | (with_reducible refine gSt (t := 141) ?_; (first | (refine list_eff rfl (eff_store 0 hm rfl rfl (ev_tmp rfl) rfl (TS_ag HM.out) (size_TSS HM.out len_z258) (TS_one _ _ _ _ _) ?_); clear hm; intro w hm; try simp only [puts, List.cons_append, List.nil_append, List.set] at hm) | (refine list_eff rfl (eff_store 1 hm rfl rfl (ev_tmp rfl) rfl (TS_ag HM.out) (size_TSS HM.out HT.out) (TS_one _ _ _ _ _) ?_); clear hm; intro w hm; try simp only [puts, List.cons_append, List.nil_append, List.set] at hm)))
          | (with_reducible refine gSt (t := 139) ?_; (first | (refine list_eff rfl (eff_store 1 hm rfl rfl (ev_tmp rfl) rfl (aggN len_z258) rfl (J_one _ _) ?_); clear hm; intro w hm; try simp only [puts, List.cons_append, List.nil_append, List.set] at hm) | (refine list_eff rfl (eff_store 2 hm rfl rfl (ev_tmp rfl) rfl (aggN len_z258) rfl (J_one _ _) ?_); clear hm; intro w hm; try simp only [puts, List.cons_append, List.nil_append, List.set] at hm) | (refine list_eff rfl (eff_store 2 hm rfl rfl (ev_tmp rfl) rfl (aggN HM.out) (size_JJ HM.out len_z258) (J_one _ _) ?_); clear hm; intro w hm; try simp only [puts, List.cons_append, List.nil_append, List.set] at hm))))
      refine bodyPost_ret (results_agg3 rfl rfl (hm.row 1 rfl) (aggN len_z258)) rfl ⟨by rw [HRR.out]; rfl, hm.below⟩
end Go.Proofs.YtkpbhdhkdonghaaGreat
