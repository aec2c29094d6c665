/-
  Part 53 of the proof.
-/
import Derived.Test.YtkpbhdhkdonghaaGreatV12
import Derived.Test.YtkpbhdhkdonghaaGreatV52
set_option linter.all false
namespace Go.Proofs.YtkpbhdhkdonghaaGreat
open Go Go.RowKit
theorem szSP (a n : Int) : (SP a n).size = (#[Value.int .i64 0, Value.int .i64 0] : Array Value).size := rfl
theorem Own.r1 {w0 w : World} {p a d : Nat × Array Value} {rs : List (Nat × Array Value)} {ss : List Sl} (h : Own w0 w (p :: a :: d :: rs) ss) : Own w0 w (a :: d :: p :: rs) ss := h.perm ((List.Perm.cons a (List.Perm.swap p d rs)).trans (List.Perm.swap p a (d :: rs)))
theorem Own.sw {w0 w : World} {p a d q : Nat × Array Value} {rs : List (Nat × Array Value)} {ss : List Sl} (h : Own w0 w (p :: a :: d :: q :: rs) ss) : Own w0 w (q :: a :: d :: p :: rs) ss := h.perm (by
  refine List.Perm.trans (List.perm_middle (l₁ := [q, a, d])) ?_
  refine List.Perm.cons p ?_
  exact ((List.perm_middle (l₁ := [a, d]) (l₂ := rs) (a := q)).symm))
theorem Own.back4 {w0 w : World} {t p a d q : Nat × Array Value} {rs : List (Nat × Array Value)} {ss : List Sl} (h : Own w0 w (t :: p :: a :: d :: q :: rs) ss) : Own w0 w (p :: a :: d :: q :: t :: rs) ss := h.perm (List.perm_middle (l₁ := [p, a, d, q]) (l₂ := rs) (a := t))
structure F5 (l l5 : List Int) (lv : Int) (b m4 index : Nat) : Prop where
  len : l5.length = b
  col : colOf l5 0 l.length = l
  fd : FdOk l5 lv 0 l.length l.length m4 index
  row : ∀ r, r ≤ l.length → w32 l5 (l.length + 4 * r) 4 = rowsOf (colOf l5 0 l.length) index r
theorem F5.mk2 {l l5 l6 : List Int} {lv : Int} {b m4 n5 index : Nat} (h : F5 l l5 lv b m4 index) (h1 : l6.length = l5.length) (h2 : colOf l6 0 l.length = colOf l5 0 l.length) (h3 : ∀ i, i < n5 → gi l6 i = gi l5 i) (hn : 5 * l.length + 4 ≤ n5) (hb : Bytes l6) : F5 l l6 lv b m4 index := by
  obtain ⟨n1, n2, ap, fit, four, lim, big, i1, i2, byt⟩ := h.fd
  refine ⟨by rw [h1, h.len], by rw [h2, h.col], ⟨n1, n2, ap, fit, four, by omega, by omega, i1, i2, hb⟩, fun r hr => ?_⟩
  rw [h2, ← h.row r hr]
  exact w32_congr 4 fun i _ hi => h3 i (by omega)
set_option maxRecDepth 100000 in
set_option maxHeartbeats 1000000 in
theorem tic_in (v : Value) (l : List Int) (index d : Nat) (w : World) (hb : Bytes l) (hv : In .u8 w v l) (n1 : 1 ≤ l.length) (n2 : l.length ≤ 60) (i1 : 1 ≤ index) (i2 : index ≤ l.length) (d1 : 1 ≤ d) (d2 : d ≤ 100) : Calls Tryz.prog 6 #[v, .int .i64 index, .int .i64 d] w fun e w' => e = .returned (.bool true) ∧ Below w.heap.size w w' := by
  have hvb : ∀ W, Own w W [] [] → In .u8 W v l := fun W h => hv.below h.below
  obtain ⟨ad, cp, rfl, hc⟩ := hv
  obtain ⟨A, rfl, _⟩ := hc 0 (by omega)
  have HV := Lib.hid hvb
  obtain ⟨q, hq⟩ : ∃ q, q = l.length / d := ⟨_, rfl⟩
  obtain ⟨b, hb0⟩ : ∃ b, b = 5 * l.length + 4 + 1024 * q + 1 := ⟨_, rfl⟩
  obtain ⟨m4, hm4⟩ : ∃ m4, m4 = 4 * (l.length + 1) := ⟨_, rfl⟩
  obtain ⟨m1, hm1⟩ : ∃ m1, m1 = 1024 * q := ⟨_, rfl⟩
  obtain ⟨n5, hn5⟩ : ∃ n5, n5 = l.length + m4 := ⟨_, rfl⟩
  obtain ⟨lv, hlv⟩ : ∃ lv, lv = n5 + m1 := ⟨_, rfl⟩
  have hq60 : q ≤ 60 := by
    have := Nat.div_le_self l.length d
    omega
  have g1 : ((l.length : Int) == 0) = false := by rw [beq_eq_false_iff_ne]; omega
  have g2 : decide ((60 : Int) < l.length) = false := decide_eq_false (by omega)
  have g3 : decide ((index : Int) < 1) = false := decide_eq_false (by omega)
  have g4 : decide ((l.length : Int) < index) = false := decide_eq_false (by omega)
  have g5 : decide ((d : Int) < 1) = false := decide_eq_false (by omega)
  have g6 : decide ((100 : Int) < d) = false := decide_eq_false (by omega)
  have g1b : (l.length == 0) = false := by rw [beq_eq_false_iff_ne]; omega
  have g2b : decide (60 < l.length) = false := decide_eq_false (by omega)
  have g4b : decide (l.length < index) = false := decide_eq_false (by omega)
  have g6b : decide (100 < d) = false := decide_eq_false (by omega)
  have g7 : ((d : Int) == 0) = false := by rw [beq_eq_false_iff_ne]; omega
  have g7b : (d == 0) = false := by rw [beq_eq_false_iff_ne]; omega
  have t1 : Int.tdiv (l.length : Int) d = (q : Int) := by rw [hq, Int.tdiv_eq_ediv_of_nonneg (by omega)]; rfl
  have CN : Hid (∀ W, Own w W [] [] → Calls Tryz.prog 22 #[.int .i64 (5 * (l.length : Int) + 4 + 1024 * (q : Int) + 1)] W fun e w' => ∃ ga gd, (e = .returned (.tuple #[.pointer (some ⟨ga, 0, none⟩), .int .i64 0])) ∧ Own w w' ((ga, AR (.slice (some ⟨gd, 0, none⟩) b b) 0 0) :: (gd, B (List.replicate b 0)) :: []) []) := Lib.hid fun W h => by
    have h1 := anew_ok b w W [] [] h (by omega) (by omega)
    rw [show (b : Int) = 5 * (l.length : Int) + 4 + 1024 * (q : Int) + 1 by omega] at h1
    exact h1
  have CT1 : Hid (∀ (ga gd : Nat) (pk : Int) (W : World) (rt : List (Nat × Array Value)), Own w W ((ga, AR (.slice (some ⟨gd, 0, none⟩) b b) 0 pk) :: (gd, B (List.replicate b 0)) :: rt) [] → Calls Tryz.prog 23 #[.pointer (some ⟨ga, 0, none⟩), .int .i64 (l.length : Int)] W fun e w' => (e = .returned (.tuple #[.agg (SP 0 l.length), .int .i64 0])) ∧ ∃ pk2, Own w w' ((ga, AR (.slice (some ⟨gd, 0, none⟩) b b) (l.length : Int) pk2) :: (gd, B (List.replicate b 0)) :: rt) []) := Lib.hid fun ga gd pk W rt h => by
    have h0 : Own w W ((ga, AR (.slice (some ⟨gd, 0, none⟩) (List.replicate b (0 : Int)).length (List.replicate b (0 : Int)).length) ((0 : Nat) : Int) pk) :: (gd, B (List.replicate b 0)) :: rt) [] := by rw [List.length_replicate]; exact h
    have h1 := take_pos ga gd 0 l.length (List.replicate b 0) pk w W rt [] h0 (by rw [List.length_replicate]; omega) (by rw [List.length_replicate]; omega) (by omega)
    rw [zeroAt_zeros, List.length_replicate] at h1
    refine h1.mono fun e w' h2 => ⟨h2.1, ?_⟩
    have h3 := h2.2
    rw [Nat.zero_add] at h3
    exact ⟨_, h3⟩
  have CT2 : Hid (∀ (ga gd : Nat) (pk : Int) (W : World) (rt : List (Nat × Array Value)), Own w W ((ga, AR (.slice (some ⟨gd, 0, none⟩) b b) (l.length : Int) pk) :: (gd, B (List.replicate b 0)) :: rt) [] → Calls Tryz.prog 23 #[.pointer (some ⟨ga, 0, none⟩), .int .i64 (4 * ((l.length : Int) + 1))] W fun e w' => (e = .returned (.tuple #[.agg (SP l.length m4), .int .i64 0])) ∧ ∃ pk2, Own w w' ((ga, AR (.slice (some ⟨gd, 0, none⟩) b b) (n5 : Int) pk2) :: (gd, B (List.replicate b 0)) :: rt) []) := Lib.hid fun ga gd pk W rt h => by
    have h0 : Own w W ((ga, AR (.slice (some ⟨gd, 0, none⟩) (List.replicate b (0 : Int)).length (List.replicate b (0 : Int)).length) ((l.length : Nat) : Int) pk) :: (gd, B (List.replicate b 0)) :: rt) [] := by rw [List.length_replicate]; exact h
    have h1 := take_pos ga gd l.length m4 (List.replicate b 0) pk w W rt [] h0 (by rw [List.length_replicate]; omega) (by rw [List.length_replicate]; omega) (by omega)
    rw [zeroAt_zeros, List.length_replicate] at h1
    rw [show (m4 : Int) = 4 * ((l.length : Int) + 1) by omega] at h1
    refine h1.mono fun e w' h2 => ⟨?_, ?_⟩
    · rw [h2.1, show (m4 : Int) = 4 * ((l.length : Int) + 1) by omega]
    · have h3 := h2.2
      rw [← hn5] at h3
      exact ⟨_, h3⟩
  have CT3 : Hid (∀ (ga gd : Nat) (pk : Int) (W : World) (rt : List (Nat × Array Value)), Own w W ((ga, AR (.slice (some ⟨gd, 0, none⟩) b b) (n5 : Int) pk) :: (gd, B (List.replicate b 0)) :: rt) [] → Calls Tryz.prog 23 #[.pointer (some ⟨ga, 0, none⟩), .int .i64 (1024 * (q : Int))] W fun e w' => (e = .returned (.tuple #[.agg (SP n5 m1), .int .i64 0])) ∧ ∃ pk2, Own w w' ((ga, AR (.slice (some ⟨gd, 0, none⟩) b b) (lv : Int) pk2) :: (gd, B (List.replicate b 0)) :: rt) []) := Lib.hid fun ga gd pk W rt h => by
    have h0 : Own w W ((ga, AR (.slice (some ⟨gd, 0, none⟩) (List.replicate b (0 : Int)).length (List.replicate b (0 : Int)).length) ((n5 : Nat) : Int) pk) :: (gd, B (List.replicate b 0)) :: rt) [] := by rw [List.length_replicate]; exact h
    by_cases hz : m1 = 0
    · have h1 := take_zero ga gd n5 m1 (List.replicate b 0) pk w W rt [] h0 (by rw [List.length_replicate]; omega) (by rw [List.length_replicate]; omega) hz
      rw [List.length_replicate, show (m1 : Int) = 1024 * (q : Int) by omega] at h1
      refine h1.mono fun e w' h2 => ⟨?_, ?_⟩
      · rw [h2.1, show (m1 : Int) = 1024 * (q : Int) by omega]
      · have h3 := h2.2
        rw [← hlv] at h3
        exact ⟨_, h3⟩
    · have h1 := take_pos ga gd n5 m1 (List.replicate b 0) pk w W rt [] h0 (by rw [List.length_replicate]; omega) (by rw [List.length_replicate]; omega) (by omega)
      rw [zeroAt_zeros, List.length_replicate, show (m1 : Int) = 1024 * (q : Int) by omega] at h1
      refine h1.mono fun e w' h2 => ⟨?_, ?_⟩
      · rw [h2.1, show (m1 : Int) = 1024 * (q : Int) by omega]
      · have h3 := h2.2
        rw [← hlv] at h3
        exact ⟨_, h3⟩
  have CS : Hid (∀ (ga gd : Nat) (pk : Int) (W : World) (rt : List (Nat × Array Value)), Own w W ((ga, AR (.slice (some ⟨gd, 0, none⟩) b b) (lv : Int) pk) :: (gd, B (List.replicate b 0)) :: rt) [] → Calls Tryz.prog 24 #[.pointer (some ⟨ga, 0, none⟩), .agg (SP 0 l.length), .int .i64 0, .slice (some A) l.length cp] W fun e w' => (e = .returned (.bool true)) ∧ Own w w' ((ga, AR (.slice (some ⟨gd, 0, none⟩) b b) (lv : Int) pk) :: (gd, B (putL8 (List.replicate b 0) 0 l)) :: rt) []) := Lib.hid fun ga gd pk W rt h => by
    have h0 : Own w W ((ga, AR (.slice (some ⟨gd, 0, none⟩) (List.replicate b (0 : Int)).length (List.replicate b (0 : Int)).length) (lv : Int) pk) :: (gd, B (List.replicate b 0)) :: rt) [] := by rw [List.length_replicate]; exact h
    have h1 := store_ok ga gd 0 l.length 0 (List.replicate b 0) l A cp lv pk w W rt [] h0 (fun j u hj => by
      obtain ⟨ad, cp2, he, hc⟩ := HV.out W (h.sub (List.nil_sublist _) (List.nil_sublist _))
      have hjl : j < l.length := by
        have := (List.getElem?_eq_some_iff.1 hj).1
        rwa [length_vs] at this
      obtain ⟨A', e', hA⟩ := hc j hjl
      cases he
      cases e'
      rw [hA, ← hj, get_vs _ _ j hjl]) (by omega) (by rw [List.length_replicate]; omega) (by rw [List.length_replicate]; omega) (by omega) (by omega)
    rw [List.length_replicate] at h1
    exact h1
  have CB : Hid (∀ (ga gd : Nat) (pk : Int) (W : World) (rt : List (Nat × Array Value)), Own w W ((ga, AR (.slice (some ⟨gd, 0, none⟩) b b) (lv : Int) pk) :: (gd, B (putL8 (List.replicate b 0) 0 l)) :: rt) [] → Calls Tryz.prog 25 #[.pointer (some ⟨ga, 0, none⟩), .agg (SP 0 l.length), .int .i64 index, .agg (SP l.length m4)] W fun e w' => ∃ (gf : Nat) (l5 : List Int), (e = .returned (.tuple #[.pointer (some ⟨gf, 0, none⟩), .int .i64 0])) ∧ F5 l l5 lv b m4 index ∧ Own w w' ((gf, FLof ga 0 l.length l.length m4 index 0 0 0) :: (ga, AR (.slice (some ⟨gd, 0, none⟩) b b) (lv : Int) pk) :: (gd, B l5) :: rt) []) := Lib.hid fun ga gd pk W rt h => by
    have hl := len_put b l (by omega)
    have h1 := tbnew_any ga gd 0 l.length l.length m4 index (putL8 (List.replicate b 0) 0 l) lv pk w W rt [] (by rw [hl]; exact h) ⟨n1, by omega, by omega, by omega, by omega, by rw [hl]; omega, by rw [hl]; omega, i1, i2, bytes_put b hb⟩
    refine h1.mono ?_
    rintro e w' ⟨gf, l5, h2, h3, h4, _, h5, h6, h7⟩
    rw [col_put b l (by omega)] at h4
    rw [h3, hl] at h7
    exact ⟨gf, l5, h2, ⟨by rw [h3, hl], h4, h5, h6⟩, h7⟩
  have CW : Hid (∀ (ga gd : Nat) (pk : Int) (l5 : List Int) (W : World) (rt : List (Nat × Array Value)), F5 l l5 lv b m4 index → Own w W ((ga, AR (.slice (some ⟨gd, 0, none⟩) b b) (lv : Int) pk) :: (gd, B l5) :: rt) [] → Calls Tryz.prog 26 #[.pointer (some ⟨ga, 0, none⟩), .agg (SP 0 l.length), .int .i64 index, .agg (SP n5 m1), .int .i64 d] W fun e w' => ∃ (gw : Nat) (l6 : List Int), (e = .returned (.tuple #[.pointer (some ⟨gw, 0, none⟩), .int .i64 0])) ∧ (F5 l l6 lv b m4 index ∧ WkOk l6 lv 0 l.length n5 m1 d index) ∧ Own w w' ((gw, WKof ga l6 0 l.length n5 m1 d index 0 0 0) :: (ga, AR (.slice (some ⟨gd, 0, none⟩) b b) (lv : Int) pk) :: (gd, B l6) :: rt) []) := Lib.hid fun ga gd pk l5 W rt hF h => by
    have hl := hF.len
    have h1 := rwnew_any ga gd 0 l.length n5 m1 d index l5 lv pk w W rt [] (by rw [hl]; exact h) hF.fd.byt ⟨n1, by omega, d1, by omega, by omega, by omega, by rw [← hq]; omega, by omega⟩ (by rw [hl]; omega) (by rw [hl]; omega) i1 i2
    refine h1.mono ?_
    rintro e w' ⟨gw, l6, h2, h3, h4, h5, h6, h7⟩
    rw [h3, hl] at h7
    exact ⟨gw, l6, h2, ⟨hF.mk2 h3 h4 h5 (by omega) h6.sm.byt, h6⟩, h7⟩
  have CK : Hid (∀ (W : World) (rt : List (Nat × Array Value)), Own w W rt [] → Calls Tryz.prog 27 #[.slice (some A) l.length cp, .int .i64 index] W (BackPost w (bwk l index l.length 0 []) l.length rt [])) := Lib.hid fun W rt h => back_any _ l index w W rt [] h (fun W h => HV.out W (h.sub (List.nil_sublist _) (List.nil_sublist _))) hb i1 i2 (by omega)
  have HD : Hid (b = 5 * l.length + 4 + 1024 * q + 1 ∧ m4 = 4 * (l.length + 1) ∧ m1 = 1024 * q ∧ n5 = l.length + m4 ∧ lv = n5 + m1) := Lib.hid ⟨hb0, hm4, hm1, hn5, hlv⟩
  have HBY := Lib.hid hb
  obtain ⟨i5, hE5⟩ := em22
  have HE5 := Lib.hid hE5
  clear hE5 hvb hc hq hb0 hm4 hm1 hn5 hlv hb
  go_enter Tryz.func6, Tryz.ntmps6
  have hm := Own.nil w
  go_upto_region 12 with (first
    | (go_at_call 22; have _t := hm; refine (CN.out _ hm).mono ?_; clear _t; clear hm; rintro e w2 ⟨ga, gd, rfl, hm⟩)
    | (go_at_call 23; have _t := hm; first | (refine (CT1.out _ _ _ _ _ (by first | exact hm | exact hm.r1)).mono ?_; clear _t CT1; clear hm; rintro e w2 ⟨rfl, pk, hm⟩) | (refine (CT2.out _ _ _ _ _ hm.r1).mono ?_; clear _t CT2; clear hm; rintro e w2 ⟨rfl, pk, hm⟩) | (refine (CT3.out _ _ _ _ _ hm.r1).mono ?_; clear _t CT3; clear hm; rintro e w2 ⟨rfl, pk, hm⟩))
    | (go_at_call 24; have _t := hm; refine (CS.out _ _ _ _ _ hm.r1).mono ?_; clear _t; clear hm; rintro e w2 ⟨rfl, hm⟩)
    | (go_at_call 25; have _t := hm; refine (CB.out _ _ _ _ _ hm).mono ?_; clear _t; clear hm; rintro e w2 ⟨gf, l5, rfl, hF, hm⟩; have HF5 := Lib.hid hF; clear hF)
    | (go_at_call 26; have _t := hm; refine (CW.out _ _ _ _ _ _ HF5.out hm.r1).mono ?_; clear _t; clear hm; rintro e w2 ⟨gw, l6, rfl, hF, hm⟩; have HF6 := Lib.hid hF; clear hF)
    | (with_reducible refine gAl (t := 50) ?_; (refine list_eff rfl (eff_alloc hm rfl zr50 ?_); clear hm; intro w3 g hm))
    | (with_reducible refine gSt (t := 50) ?_; (refine list_eff rfl (eff_store 0 hm (cs := #[Value.int .i64 0, Value.int .i64 0]) rfl rfl (ev_tmp rfl) rfl (aggSP _ _) (szSP _ _) (SP_one _ _) ?_); clear hm; intro w3 hm; try simp only [List.set] at hm))
    | (with_reducible refine gLd (t := 50) ?_; (first | (refine wpList_run rfl (lda 2 hm rfl rfl rfl (aggSP _ _)) ?_) | (refine wpList_run rfl (lda 3 hm rfl rfl rfl (aggSP _ _)) ?_) | (refine wpList_run rfl (lda 4 hm rfl rfl rfl (aggSP _ _)) ?_) | (refine wpList_run rfl (lda 5 hm rfl rfl rfl (aggSP _ _)) ?_))))
  have hm0 : Own w w2 ((gw, WKof ga l6 0 l.length n5 m1 d index 0 0 0) :: (ga, AR (.slice (some ⟨gd, 0, none⟩) b b) (lv : Int) pk) :: (gd, B l6) :: (gf, FLof ga 0 l.length l.length m4 index 0 0 0) :: []) [] := hm.sub (List.sublist_append_left [_, _, _, _] [_, _, _]) (List.Sublist.refl _)
  clear hm
  have hm := hm0
  clear hm0
  have hcol := HF6.out.1.col
  have hfd := HF6.out.1.fd
  have hwk := HF6.out.2
  have hl6 := HF6.out.1.len
  have hrow := HF6.out.1.row
  have HBY2 := HBY.out
  obtain ⟨o, ho⟩ : ∃ o, o = bwk l index l.length 0 [] := ⟨_, rfl⟩
  have hval : wval l index l.length 0 = o.isSome := by rw [ho, bwk_val]
  have CK2 : Hid (∀ (W : World) (rt : List (Nat × Array Value)), Own w W rt [] → Calls Tryz.prog 27 #[.slice (some A) l.length cp, .int .i64 index] W (BackPost w o l.length rt [])) := Lib.hid (by rw [ho]; exact CK.out)
  obtain ⟨c1, hc1⟩ : ∃ c1, c1 = wst l index d l.length 0 := ⟨_, rfl⟩
  obtain ⟨c2, hc2⟩ : ∃ c2, c2 = wct l index l.length 0 := ⟨_, rfl⟩
  have b1 := wst_bd l index d d1 l.length 0
  have b2 := wct_bd l index l.length 0
  rw [← hc1] at b1
  rw [← hc2] at b2
  have b1' : c1 ≤ 10000 := by
    have h9 : (l.length : Int) * (1 + d) ≤ 60 * 101 := Int.mul_le_mul (by omega) (by omega) (by omega) (by omega)
    omega
  have CVf : Hid (∀ (W : World) (T : List (Nat × Array Value)), Own w W ((gw, WKof ga l6 0 l.length n5 m1 d index 0 0 0) :: (ga, AR (.slice (some ⟨gd, 0, none⟩) b b) (lv : Int) pk) :: (gd, B l6) :: (gf, FLof ga 0 l.length l.length m4 index 0 0 0) :: T) [] → Calls Tryz.prog 28 #[.pointer (some ⟨gf, 0, none⟩)] W fun e w' => (e = .returned (.bool o.isSome)) ∧ Own w w' ((gw, WKof ga l6 0 l.length n5 m1 d index 0 0 0) :: (ga, AR (.slice (some ⟨gd, 0, none⟩) b b) (lv : Int) pk) :: (gd, B l6) :: (gf, FLof ga 0 l.length l.length m4 index 0 0 c2) :: T) []) := Lib.hid fun W T h => by
    have h1 := tbvalid_any gf ga gd 0 l.length l.length m4 index l6 0 0 0 lv pk w W _ [] (by rw [hl6]; exact h.sw) hfd hrow (by omega) (by omega)
    rw [hcol, hval, ← hc2, Int.zero_add, hl6] at h1
    exact h1.mono fun e w' h2 => ⟨h2.1, h2.2.sw⟩
  have CVw : Hid (∀ (W : World) (T : List (Nat × Array Value)), Own w W ((gw, WKof ga l6 0 l.length n5 m1 d index 0 0 0) :: (ga, AR (.slice (some ⟨gd, 0, none⟩) b b) (lv : Int) pk) :: (gd, B l6) :: (gf, FLof ga 0 l.length l.length m4 index 0 0 c2) :: T) [] → Calls Tryz.prog 29 #[.pointer (some ⟨gw, 0, none⟩)] W fun e w' => (e = .returned (.bool o.isSome)) ∧ Own w w' ((gw, WKof ga l6 0 l.length n5 m1 d index 0 0 c1) :: (ga, AR (.slice (some ⟨gd, 0, none⟩) b b) (lv : Int) pk) :: (gd, B l6) :: (gf, FLof ga 0 l.length l.length m4 index 0 0 c2) :: T) []) := Lib.hid fun W T h => by
    have h1 := rwvalid_any gw ga gd 0 l.length n5 m1 d index l6 0 0 0 lv pk w W _ [] (by rw [hl6]; exact h) hwk (by omega) (by omega)
    rw [hcol, hval, ← hc1, Int.zero_add, hl6] at h1
    exact h1
  have CXf : Hid (∀ (W : World) (T : List (Nat × Array Value)) (r j : Nat) (s1 s2 : Int), r ≤ l.length → j < l.length → r ≠ index → 0 ≤ s2 → s2 ≤ 1000000 → Own w W ((gw, WKof ga l6 0 l.length n5 m1 d index r j s1) :: (ga, AR (.slice (some ⟨gd, 0, none⟩) b b) (lv : Int) pk) :: (gd, B l6) :: (gf, FLof ga 0 l.length l.length m4 index r j s2) :: T) [] → Calls Tryz.prog 30 #[.pointer (some ⟨gf, 0, none⟩)] W fun e w' => (e = .returned (.tuple #[.int .u8 (gi l (colp index r)), .bool true])) ∧ Own w w' ((gw, WKof ga l6 0 l.length n5 m1 d index r j s1) :: (ga, AR (.slice (some ⟨gd, 0, none⟩) b b) (lv : Int) pk) :: (gd, B l6) :: (gf, FLof ga 0 l.length l.length m4 index (aft l (colp index r)).toNat (j + 1 : Nat) (s2 + 1)) :: T) []) := Lib.hid fun W T r j s1 s2 h1 h2 h3 h4 h5 h => by
    have h6 := tbnext_go gf ga gd 0 l.length l.length m4 index l6 r j s2 lv pk w W _ [] (by rw [hl6]; exact h.sw) hfd hrow (by omega) (by omega) h1 h2 h3
    rw [hcol, hl6] at h6
    have h7 := aft_nat HBY2 (colp index r) (colp_lt i1 i2 h1 h3)
    exact h6.mono fun e w' h2 => ⟨h2.1, by rw [h7.1]; exact h2.2.sw⟩
  have CXw : Hid (∀ (W : World) (T : List (Nat × Array Value)) (r j r2 j2 : Nat) (s1 s2 : Int), r ≤ l.length → j < l.length → r ≠ index → 0 ≤ s1 → s1 ≤ 1000000 → Own w W ((gw, WKof ga l6 0 l.length n5 m1 d index r j s1) :: (ga, AR (.slice (some ⟨gd, 0, none⟩) b b) (lv : Int) pk) :: (gd, B l6) :: (gf, FLof ga 0 l.length l.length m4 index r2 j2 s2) :: T) [] → Calls Tryz.prog 31 #[.pointer (some ⟨gw, 0, none⟩)] W fun e w' => (e = .returned (.tuple #[.int .u8 (gi l (colp index r)), .bool true])) ∧ Own w w' ((gw, WKof ga l6 0 l.length n5 m1 d index (aft l (colp index r)).toNat (j + 1 : Nat) (s1 + (1 + ((colp index r % d : Nat) : Int)))) :: (ga, AR (.slice (some ⟨gd, 0, none⟩) b b) (lv : Int) pk) :: (gd, B l6) :: (gf, FLof ga 0 l.length l.length m4 index r2 j2 s2) :: T) []) := Lib.hid fun W T r j r2 j2 s1 s2 h1 h2 h3 h4 h5 h => by
    have h6 := rwnext_go gw ga gd 0 l.length n5 m1 d index l6 r j s1 lv pk w W _ [] (by rw [hl6]; exact h) hwk (by omega) (by omega) h1 h2 h3
    rw [hcol, hl6] at h6
    have h7 := aft_nat HBY2 (colp index r) (colp_lt i1 i2 h1 h3)
    exact h6.mono fun e w' h2 => ⟨h2.1, by rw [h7.1]; exact h2.2⟩
  have HO := Lib.hid ho
  have HC12 : Hid (0 ≤ c1 ∧ c1 ≤ 10000 ∧ 0 ≤ c2 ∧ c2 ≤ 60) := Lib.hid ⟨b1.1, b1', b2.1, by omega⟩
  clear ho hval hc1 hc2 b1 b2 b1' hcol hfd hwk hl6 hrow HBY2 CN CK HF6
  rcases o with _ | t
  · simp only [Option.isSome_none] at CVf CVw
    go_wp2_with (first
      | (go_at_call 27; have _t := hm; refine (CK2.out _ _ hm).mono ?_; clear _t; clear hm; rintro e w2 ⟨rfl, hm⟩)
      | (go_at_call 28; have _t := hm; refine (CVf.out _ _ hm).mono ?_; clear _t; clear hm; rintro e w2 ⟨rfl, hm⟩)
      | (go_at_call 29; have _t := hm; refine (CVw.out _ _ hm).mono ?_; clear _t; clear hm; rintro e w2 ⟨rfl, hm⟩)
      | fail)
    go_loopw [21] (fun u wr => u = .int .i64 (-1) ∧ Own w wr ((gw, WKof ga l6 0 l.length n5 m1 d index 0 0 c1) :: (ga, AR (.slice (some ⟨gd, 0, none⟩) b b) (lv : Int) pk) :: (gd, B l6) :: (gf, FLof ga 0 l.length l.length m4 index 0 0 c2) :: []) []) (fun _ _ => 0)
    case atStart => exact ⟨by go_num, hm⟩
    case round =>
      clear hm
      obtain ⟨rfl, hm⟩ := hrel
      go_wp2_with (first
        | (go_at_call 9; refine (lives_ok _).mono ?_; rintro e w1 ⟨rfl, hb9⟩; replace hm := hm.call hb9; clear hb9))
      go_ret
      exact ⟨rfl, hm.below⟩
  · simp only [Option.isSome_some] at CVf CVw
    have wl : IntKind.i64.wrap ((l.length : Int) - 1) = (l.length : Int) - 1 := IntWalk.i64_in _ (by omega)
    go_wp2_with (first
      | (go_at_call 27; have _t := hm; refine (CK2.out _ _ hm).mono ?_; clear _t; clear hm; rintro e w2 ⟨g8, htl, rfl, hm⟩; have HTL := Lib.hid htl; clear htl; replace hm := hm.back4)
      | (go_at_call 28; have _t := hm; refine (CVf.out _ _ hm).mono ?_; clear _t; clear hm; rintro e w2 ⟨rfl, hm⟩)
      | (go_at_call 29; have _t := hm; refine (CVw.out _ _ hm).mono ?_; clear _t; clear hm; rintro e w2 ⟨rfl, hm⟩))
    have hm0 : Own w w2 ((gw, WKof ga l6 0 l.length n5 m1 d index (0 : Nat) (0 : Nat) c1) :: (ga, AR (.slice (some ⟨gd, 0, none⟩) b b) (lv : Int) pk) :: (gd, B l6) :: (gf, FLof ga 0 l.length l.length m4 index (0 : Nat) (0 : Nat) c2) :: [(g8, J .u8 t)]) [] := hm
    clear hm
    have hm := hm0
    clear hm0
    go_loopw [21] (fun u wr => ∃ (k j r : Nat) (acc : List Int) (s1 s2 : Int), k + j = l.length ∧ r ≤ l.length ∧ 0 ≤ s1 ∧ s1 ≤ 10000 + 200 * j ∧ 0 ≤ s2 ∧ s2 ≤ 60 + j ∧ u = .int .i64 ((k : Int) - 1) ∧ bwk l index k r acc = some t ∧ Own w wr ((gw, WKof ga l6 0 l.length n5 m1 d index r j s1) :: (ga, AR (.slice (some ⟨gd, 0, none⟩) b b) (lv : Int) pk) :: (gd, B l6) :: (gf, FLof ga 0 l.length l.length m4 index r j s2) :: [(g8, J .u8 t)]) []) (fun u _ => (intOf u + 1).toNat)
    case atStart => exact ⟨l.length, 0, 0, [], c1, c2, by omega, by omega, HC12.out.1, by have := HC12.out.2.1; omega, HC12.out.2.2.1, by have := HC12.out.2.2.2; omega, rfl, HO.out.symm, hm⟩
    case round =>
      clear hm
      obtain ⟨k, j, r, acc, s1, s2, hkj, hr, a1, a2, a3, a4, rfl, hbk, hm⟩ := hrel
      rcases k with _ | k
      · have q5 : decide ((0 : Int) ≤ ((0 : Nat) : Int) - 1) = false := by decide
        clear hbk
        go_wp2_with (first
        | (go_at_call 9; refine (lives_ok _).mono ?_; rintro e w1 ⟨rfl, hb9⟩; replace hm := hm.call hb9; clear hb9))
        go_ret
        exact ⟨rfl, hm.below⟩
      · obtain ⟨e1, e2, e3⟩ := bwk_at hbk
        have q5 : decide ((0 : Int) ≤ ((k + 1 : Nat) : Int) - 1) = true := decide_eq_true (by omega)
        have wk : IntKind.i64.wrap (((k + 1 : Nat) : Int) - 1 - 1) = (k : Int) - 1 := by rw [IntWalk.i64_in _ (by omega)]; omega
        have ek : ((k + 1 : Nat) : Int) - 1 = (k : Int) := by omega
        rw [ek] at q5 wk ⊢
        have hkl : k < l.length := by omega
        have hkt : k < t.length := by rw [HTL.out]; exact hkl
        have HG : Hid ((J .u8 t)[k]? = some (.int .u8 (gi l (colp index r)))) := Lib.hid (by rw [at_J .u8 _ k hkt, e3])
        have HG0 : Hid ((J .u8 t)[0 + k]? = some (.int .u8 (gi l (colp index r)))) := Lib.hid (by rw [Nat.zero_add]; exact HG.out)
        have hm0 := Nat.mod_lt (colp index r) (show d > 0 by omega)
        have h7 := aft_nat HBY.out (colp index r) (colp_lt i1 i2 hr e1)
        have CXf2 := Lib.hid (fun W h => CXf.out W [(g8, J .u8 t)] r j s1 s2 hr (by omega) e1 a3 (by omega) h)
        have CXw2 := Lib.hid (fun W h => CXw.out W [(g8, J .u8 t)] r j (aft l (colp index r)).toNat (j + 1) s1 (s2 + 1) hr (by omega) e1 a1 (by omega) h)
        have HN := Lib.hid e2
        have HR : Hid ((aft l (colp index r)).toNat ≤ l.length ∧ 0 ≤ s1 + (1 + ((colp index r % d : Nat) : Int)) ∧ s1 + (1 + ((colp index r % d : Nat) : Int)) ≤ 10000 + 200 * (j + 1 : Nat) ∧ 0 ≤ s2 + 1 ∧ s2 + 1 ≤ 60 + ((j + 1 : Nat) : Int)) := Lib.hid ⟨h7.2, by omega, by omega, by omega, by omega⟩
        clear e1 e2 e3 hbk hm0 h7 hkt
        generalize gi l (colp index r) = x at *
        generalize (aft l (colp index r)).toNat = r2 at *
        generalize s1 + (1 + ((colp index r % d : Nat) : Int)) = s3 at *
        go_wp2_with (first
          | (go_at_call 30; have _t := hm; refine (CXf2.out _ hm).mono ?_; clear _t; clear hm; rintro e w2 ⟨rfl, hm⟩)
          | (go_at_call 31; have _t := hm; refine (CXw2.out _ hm).mono ?_; clear _t; clear hm; rintro e w2 ⟨rfl, hm⟩)
          | (with_reducible refine gIa (t := 22) ?_; (refine wpList_run rfl (ix1 (k := k) rfl HE5.out rfl rfl rfl hkl) ?_))
          | (with_reducible refine gLd (t := 5) ?_; (refine wpList_run rfl (ld 4 hm rfl rfl rfl (ot rfl) (by first | exact HG.out | exact HG0.out)) ?_)))
        go_roundw
        case rel => exact ⟨k, j + 1, r2, x :: acc, s3, s2 + 1, by omega, HR.out.1, HR.out.2.1, HR.out.2.2.1, HR.out.2.2.2.1, HR.out.2.2.2.2, rfl, HN.out, hm⟩
        case measure => simp [intOf]
end Go.Proofs.YtkpbhdhkdonghaaGreat
