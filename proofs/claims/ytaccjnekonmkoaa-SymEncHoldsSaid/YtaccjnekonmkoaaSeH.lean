/-
  The walk of winepresslaw15.SymEncHolds.
-/
import Derived.Test.YtaccjnekonmkoaaSeQ
import Derived.Test.YtaccjnekonmkoaaMtfE
namespace Go.Proofs.Ytaccjnekonmkoaa
open Go Go.RowKit

set_option maxRecDepth 100000 in
theorem seh_w1 (v : Value) (b : List Int) (w : World) (hv : In .u8 w v b) (h : (300 : Int) < b.length) : Calls Try.prog 14 #[v] w fun e w' => e = .returned (.bool true) ∧ Below w.heap.size w w' := by
  obtain ⟨ad, cp, rfl, _⟩ := hv
  go_enter Try.func14, Try.ntmps14
  have hm := Own.nil w
  go_wp2_with (first
    | (go_at_call 45; have _t := hm; refine (wakes15 _).mono ?_; rintro e w2 ⟨rfl, hb2⟩; have hm2 := hm.call hb2; clear hm))
  go_ret
  exact ⟨rfl, hm2.below⟩
set_option maxRecDepth 100000 in
set_option maxHeartbeats 8000000 in
theorem seh_in (v : Value) (b : List Int) (w : World) (hbb : Bytes b) (hv : In .u8 w v b) (h : ¬ (300 : Int) < b.length) : Calls Try.prog 14 #[v] w fun e w' => e = .returned (.bool true) ∧ Below w.heap.size w w' := by
  have HI := Lib.hid hv
  obtain ⟨ad, cp, rfl, _⟩ := hv
  have hA0 := allO_enc b
  have hdec := dec_enc (forth b) 0 (pl_forth hbb)
  have hlP : (forth b).length = b.length := len_plc b new
  have hrg := enc_range (forth b) 0 (pl_forth hbb)
  have hlE := len_enc (forth b) 0
  have CA : Hid (∀ wz, Below w.heap.size w wz → Calls Try.prog 55 #[.slice ad b.length cp] wz (RunPost wz (allO b))) := Lib.hid (fun wz hb => eall_any b _ wz hbb (HI.out.below hb) (by omega))
  have CF : Hid (∀ wz, Below w.heap.size w wz → Calls Try.prog 30 #[.slice ad b.length cp] wz fun e w' => (∃ r, e = .returned r ∧ w'.ownsRow wz.heap.size 5 1 r (forth b).length (vs .u8 (forth b))) ∧ Below wz.heap.size wz w') := Lib.hid (fun wz hb => by rw [hlP]; exact rforth_any _ b wz (HI.out.below hb) hbb (by omega))
  generalize forth b = P at *
  generalize enc P 0 = E at *
  have hgE : ∀ i, i < E.length → gi (allO b) i = gi E i := fun i hi => by rw [hA0]; simp [gi, List.getD_eq_getElem?_getD, List.getElem?_append_left hi]
  have hgN : gi (allO b) E.length = 257 := by rw [hA0]; simp [gi, List.getD_eq_getElem?_getD]
  have hAl : (allO b).length = E.length + 1 := by rw [hA0]; simp
  clear hA0
  generalize allO b = A at *
  have HGE := Lib.hid hgE
  have HDEC : Hid (dec E 0 = P) := by show _ = _; rw [hdec]; simp
  have HRG := Lib.hid hrg
  obtain ⟨i3, hE⟩ := el39
  have HE := Lib.hid hE
  obtain ⟨i5, hE5⟩ := el24
  have HE5 := Lib.hid hE5
  have hA1 : ¬ A.length = 0 := by omega
  have hA2 : ((A.length : Int) == 0) = false := beq_eq_false_iff_ne.2 (by omega)
  have hA4 : A.length ≤ 400 := by omega
  have hA5 : 1 ≤ A.length := by omega
  have hEl : E.length ≤ 300 := by omega
  have HAL := Lib.hid hAl
  have HGN := Lib.hid hgN
  clear hgE hdec hrg hE hE5 hbb hAl hlE hgN
  have HLP := Lib.hid hlP
  clear hlP
  go_enter Try.func14, Try.ntmps14
  have hm := Own.nil w
  go_upto_region 4 with (first
    | (go_at_call 55; have _t := hm; refine (CA.out _ hm.below).mono ?_; rintro e w1 ⟨⟨s1, rfl, hq1⟩, hb1⟩; obtain ⟨aA, cA, rfl⟩ := owns_shape0 hq1; have hm1 := hm.callSl hb1 (by rw [length_vs]; exact hq1); clear hm hq1))
  obtain ⟨AA, rfl⟩ := SrcSome (Src.of_owned (hm1.get 0 rfl)) (show E.length < A.length by have := HAL.out; omega)
  have hAc := SrcAt (Src.of_owned (hm1.get 0 rfl)) (get_vs .i64 A E.length (by have := HAL.out; omega))
  rw [HGN.out] at hAc
  have hm2 := hm1.addNil 5
  go_wp2_with (first
    | (refine wpList_run rfl (exec_indexAddr_sl (k := E.length) rfl HE.out rfl rfl (by have := HAL.out; omega) (by have := HAL.out; omega)) ?_)
    | (refine wpList_run rfl (exec_loadaddr rfl rfl one3 hAc) ?_))
  go_loopw [4, 5, 6] (fun p q u wr => ∃ (i j Q : Nat) (pl : List Int) (ap : Option Addr) (cq : Nat), i ≤ E.length ∧ u = .int .i64 i ∧ q = .int .i64 Q ∧ p = .slice ap pl.length cq ∧ Hid (Q = 2 ^ j) ∧ Q ≤ 600 ∧ Hid (pl ++ dec (E.drop i) j = P) ∧ Own w wr [] [(.slice ap pl.length cq, 5, vs .u8 pl), (.slice (some AA) A.length cA, 3, vs .i64 A)]) (fun _ _ u _ => E.length - (intOf u).toNat)
  case atStart => exact ⟨0, 0, 1, [], none, 0, by omega, rfl, rfl, rfl, rfl, by omega, HDEC, hm2⟩
  case round =>
    obtain ⟨i, j, Q, pl, ap, cq, hi, rfl, rfl, rfl, HQ, hQ, HX, hmr⟩ := hrel
    clear hm1 hm2 hAc
    have hpl : pl.length + (dec (E.drop i) j).length = b.length := by rw [← List.length_append, HX.out, HLP.out]
    by_cases hlt : i < E.length
    · have hiA : i < A.length := by have := HAL.out; omega
      have hlt' : (i : Int) < (A.length : Int) - 1 := by have := HAL.out; omega
      have hA := SrcAt (Src.of_owned (hmr.get 1 rfl)) (get_vs .i64 A i hiA)
      rw [HGE.out i hlt] at hA
      have hx := HX.out
      rw [dec_step E i hlt j] at hx hpl
      have hsr := HRG.out (gi E i) (by rw [show gi E i = E[i] by simp [gi, List.getD_eq_getElem?_getD, List.getElem?_eq_getElem hlt]]; exact List.getElem_mem hlt)
      clear HX
      generalize gi E i = s at *
      have hQ2 : Hid (2 * Q = 2 ^ (j + 1)) := by show _ = _; rw [HQ.out, Nat.pow_succ, Nat.mul_comm]
      rw [← HQ.out] at hx hpl
      by_cases hs : s = 0
      · subst hs
        rw [if_pos rfl] at hx hpl
        rw [List.length_append, List.length_replicate] at hpl
        have HX : Hid ((pl ++ List.replicate Q 0) ++ dec (E.drop (i + 1)) (j + 1) = P) := by show _ = _; rw [List.append_assoc]; exact hx
        have f1 : ¬ (300 : Int) < Q := by omega
        have f2 : ¬ (b.length : Int) < (pl.length : Int) + Q := by omega
        clear hx hsr
        go_wp2_with (first
          | (refine wpList_run rfl (exec_indexAddr_sl rfl HE.out rfl rfl rfl hiA) ?_)
          | (refine wpList_run rfl (exec_loadaddr rfl rfl one3 hA) ?_)
          | (refine wpList_zeros_o 0 hmr rfl rfl HE5.out Try.underlying3 rfl rfl Q rfl rfl (by simp only [length_vs]; omega) (by simp only [length_vs]; omega) ?_; intro ad2 c2 w2 hm2; simp only [List.set] at hm2; clear hmr))
        go_roundw
        case rel =>
          have e : vs .u8 pl ++ List.replicate Q (Value.int .u8 0) = vs .u8 (pl ++ List.replicate Q 0) := by simp [vs]
          have e2 : (vs .u8 pl).length + Q = (pl ++ List.replicate Q (0 : Int)).length := by simp [length_vs]
          rw [e, e2] at hm2
          exact ⟨i + 1, j + 1, 2 * Q, pl ++ List.replicate Q 0, ad2, c2, by omega, by go_num, by go_num, by rw [← e2], hQ2, by omega, HX, hm2⟩
        case measure => simp [intOf]; omega
      by_cases hs1 : s = 1
      · subst hs1
        rw [if_neg (by decide), if_pos rfl] at hx hpl
        rw [List.length_append, List.length_replicate] at hpl
        have HX : Hid ((pl ++ List.replicate (2 * Q) 0) ++ dec (E.drop (i + 1)) (j + 1) = P) := by show _ = _; rw [List.append_assoc]; exact hx
        have f1 : ¬ (300 : Int) < 2 * (Q : Int) := by omega
        have f2 : ¬ (b.length : Int) < (pl.length : Int) + 2 * (Q : Int) := by omega
        clear hx hsr hs
        go_wp2_with (first
          | (refine wpList_run rfl (exec_indexAddr_sl rfl HE.out rfl rfl rfl hiA) ?_)
          | (refine wpList_run rfl (exec_loadaddr rfl rfl one3 hA) ?_)
          | (refine wpList_zeros_o 0 hmr rfl rfl HE5.out Try.underlying3 rfl rfl (2 * Q) (by first | rfl | (simp [Act.eval]; done)) rfl (by simp only [length_vs]; omega) (by simp only [length_vs]; omega) ?_; intro ad2 c2 w2 hm2; simp only [List.set] at hm2; clear hmr))
        go_roundw
        case rel =>
          have e : vs .u8 pl ++ List.replicate (2 * Q) (Value.int .u8 0) = vs .u8 (pl ++ List.replicate (2 * Q) 0) := by simp [vs]
          have e2 : (vs .u8 pl).length + 2 * Q = (pl ++ List.replicate (2 * Q) (0 : Int)).length := by simp [length_vs]
          rw [e, e2] at hm2
          exact ⟨i + 1, j + 1, 2 * Q, pl ++ List.replicate (2 * Q) 0, ad2, c2, by omega, by go_num, by go_num, by rw [← e2], hQ2, by omega, HX, hm2⟩
        case measure => simp [intOf]; omega
      · rw [if_neg hs, if_neg hs1] at hx hpl
        rw [List.length_cons] at hpl
        have HX : Hid ((pl ++ [s - 1]) ++ dec (E.drop (i + 1)) 0 = P) := by show _ = _; rw [List.append_assoc]; exact hx
        have d1 : (s == 0) = false := by simpa using hs
        have d2 : (s == 1) = false := by simpa using hs1
        have d3 : decide (s = 0) = false := decide_eq_false hs
        have d4 : decide (s = 1) = false := decide_eq_false hs1
        have d5 : 2 ≤ s := by omega
        have d6 : s ≤ 256 := hsr.2
        have d7 : decide (2 ≤ s) = true := decide_eq_true d5
        have d8 : decide (s ≤ 256) = true := decide_eq_true d6
        have hw1 : IntKind.i64.wrap (s - 1) = s - 1 := IntWalk.i64_in _ (by omega)
        have hw2 : IntKind.u8.wrap (s - 1) = s - 1 := IntWalk.u8_in _ (by omega)
        clear hx hsr
        go_wp2_with (first
          | (refine wpList_run rfl (exec_indexAddr_sl rfl HE.out rfl rfl rfl hiA) ?_)
          | (refine wpList_run rfl (exec_loadaddr rfl rfl one3 hA) ?_)
          | (refine wpList_build1_o (v := .int .u8 (s - 1)) hmr rfl rfl HE5.out rfl rfl ?_; intro w8 g8 hm8; clear hmr)
          | (refine wpList_append_o 0 hm8 rfl rfl HE5.out rfl rfl rfl (Src.one (hm8.row 0 rfl)) (one_list _ rfl) (by simp only [length_vs, List.length_cons, List.length_nil]; omega) (by simp only [length_vs, List.length_cons, List.length_nil]; omega) ?_; intro ad9 c9 w9 hm9; simp only [List.set] at hm9; clear hm8))
        go_roundw
        case rel =>
          have e : vs .u8 pl ++ [Value.int .u8 (s - 1)] = vs .u8 (pl ++ [s - 1]) := by simp [vs]
          have e2 : (vs .u8 pl).length + 1 = (pl ++ [s - 1]).length := by simp [length_vs]
          have e3 : (vs .u8 pl).length + [Value.int .u8 (s - 1)].length = (pl ++ [s - 1]).length := by simp [length_vs]
          rw [e, e3] at hm9
          exact ⟨i + 1, 0, 1, pl ++ [s - 1], ad9, c9, by omega, by go_num, rfl, by rw [← e2], rfl, by omega, HX, hm9.dropRow⟩
        case measure => simp [intOf]; omega
    · obtain rfl : i = E.length := by omega
      have hP : pl = P := by
        have := HX.out
        rw [List.drop_length, dec, List.append_nil] at this
        exact this
      subst hP
      have hlt' : ¬ (E.length : Int) < (A.length : Int) - 1 := by have := HAL.out; omega
      clear HX hpl
      go_wp2_with fail
      refine wp_region_ord [(0, true), (1, true), (2, true), (3, false), (4, true), (5, true), (6, true), (7, false), (8, true), (9, true)] (fun W => Below w.heap.size w W ∧ Src W (.slice ap pl.length cq) (vs .u8 pl)) rfl (by kernel_rfl) rfl (by kernel_rfl) (fun _ _ d _ _ h => by cases d <;> exact h) ⟨(hmr.drawn (wr.drawn + 1)).below, Src.of_owned ((hmr.drawn (wr.drawn + 1)).get 0 rfl)⟩ ?_
      have hn := hmr.drawn (wr.drawn + 1)
      generalize ({ wr with drawn := wr.drawn + 1 } : World) = wn at hn ⊢
      clear hmr
      refine ord_readl rfl rfl (fun W hW => by go_simp; rfl) ?_
      simp only [Act.put, List.setIfInBounds_toArray, List.set_cons_zero, List.set_cons_succ]
      refine ord_readl rfl rfl (fun W hW => exec_tostr_src (v := .slice ap pl.length cq) (l := pl) rfl Try.underlying24 Try.underlying5 Try.underlying9 rfl hW.2) ?_
      simp only [Act.put, List.setIfInBounds_toArray, List.set_cons_zero, List.set_cons_succ]
      refine ord_readl rfl rfl (fun W hW => by go_simp; rfl) ?_
      simp only [Act.put, List.setIfInBounds_toArray, List.set_cons_zero, List.set_cons_succ]
      refine ord_dol rfl rfl (fun K hK => ?_)
      go_simp
      refine (CF.out _ hn.below).mono ?_
      rintro e v1 ⟨⟨r1, rfl, ho1⟩, hb1⟩
      have k1 := hn.callSl hb1 (by rw [length_vs]; exact ho1)
      clear hn ho1
      refine hK _ _ ⟨fun W => (Below w.heap.size w W ∧ Src W (.slice ap pl.length cq) (vs .u8 pl)) ∧ Src W r1 (vs .u8 pl), fun _ h => h.1, ⟨⟨k1.below, Src.of_owned (k1.get 1 rfl)⟩, Src.of_owned (k1.get 0 rfl)⟩, ?_⟩
      clear hK K
      try simp only [Act.put, List.setIfInBounds_toArray, List.set_cons_zero, List.set_cons_succ]
      refine ord_readl rfl rfl (fun W hW => exec_tostr_src (v := r1) (l := pl) rfl Try.underlying24 Try.underlying5 Try.underlying9 rfl hW.2) ?_
      simp only [Act.put, List.setIfInBounds_toArray, List.set_cons_zero, List.set_cons_succ]
      refine ord_readl rfl rfl (fun W hW => exec_eqlstr (b := true) rfl rfl rfl (by simp)) ?_
      simp only [Act.put, List.setIfInBounds_toArray, List.set_cons_zero, List.set_cons_succ]
      refine ord_readl rfl rfl (fun W hW => by go_simp; rfl) ?_
      simp only [Act.put, List.setIfInBounds_toArray, List.set_cons_zero, List.set_cons_succ]
      refine ord_dol rfl rfl (fun K hK => ?_)
      go_simp
      refine (wakes15 _).mono ?_
      rintro e v2 ⟨rfl, hb2⟩
      have k2 := k1.call hb2
      clear k1
      refine hK _ _ ⟨_, fun _ h => h, ⟨⟨k2.below, Src.of_owned (k2.get 1 rfl)⟩, Src.of_owned (k2.get 0 rfl)⟩, ?_⟩
      clear hK K
      try simp only [Act.put, List.setIfInBounds_toArray, List.set_cons_zero, List.set_cons_succ]
      refine ord_readl rfl rfl (fun W hW => by go_simp; rfl) ?_
      simp only [Act.put, List.setIfInBounds_toArray, List.set_cons_zero, List.set_cons_succ]
      refine ord_readl rfl rfl (fun W hW => by go_simp; rfl) ?_
      simp only [Act.put, List.setIfInBounds_toArray, List.set_cons_zero, List.set_cons_succ]
      refine ord_nil ?_
      go_simp
      go_wp2
      go_ret
      exact ⟨rfl, k2.below⟩
theorem seh15 (v : Value) (b : List Int) (w : World) (hbb : Bytes b) (hv : In .u8 w v b) : Calls Try.prog 14 #[v] w fun e w' => e = .returned (.bool true) ∧ Below w.heap.size w w' := by
  by_cases h : (300 : Int) < b.length
  · exact seh_w1 v b w hv h
  · exact seh_in v b w hbb hv h
end Go.Proofs.Ytaccjnekonmkoaa
