/-
  Part 54 of the proof.
-/
import Derived.Test.YtkpbhdhkdonghaaGreatT11
import Derived.Test.YtkpbhdhkdonghaaGreatT23
import Derived.Test.YtkpbhdhkdonghaaGreatT53
set_option linter.all false
namespace Go.Proofs.YtkpbhdhkdonghaaGreat
open Go Go.RowKit
def upb (by_ from_ a : Int) : Int := if from_ ≤ a then a + by_ + 1 else a + by_
theorem upb_mono (by_ from_ a b : Int) : upb by_ from_ a < upb by_ from_ b ↔ a < b := by
  simp only [upb]
  split <;> split <;> omega
theorem lstk_mem (t o : List Int) : ∀ k x, x ∈ lstk t o k → x = 0 ∨ x ∈ t
  | 0, x, h => by simp [lstk] at h
  | k + 1, x, h => by
    rw [lstk] at h
    split at h
    · exact lstk_mem t o k x h
    · rcases List.mem_append.1 h with h | h
      · exact lstk_mem t o k x h
      · obtain rfl := List.mem_singleton.1 h
        by_cases hl : (gi o k - 1).toNat < t.length
        · exact .inr (gi_mem t _ hl)
        · left
          have h9 : t.length ≤ (gi o k - 1).toNat := by omega
          rw [gi, List.getD_eq_getElem?_getD, List.getElem?_eq_none h9]
          rfl
theorem bwl_bytes {t : List Int} (hb : Bytes t) : Bytes (bwl t) := fun x hx => by
  rcases lstk_mem t _ _ x hx with h | h
  · omega
  · exact hb x h
set_option maxRecDepth 100000 in
set_option maxHeartbeats 1000000 in
theorem tut_1 (v : Value) (t : List Int) (by_ from_ : Int) (w : World) (hv : In .u8 w v t) (p1 : 100 < t.length) : Calls Tryz.prog 7 #[v, .int .u8 by_, .int .u8 from_] w fun e w' => e = .returned (.bool true) ∧ Below w.heap.size w w' := by
  obtain ⟨ad, cp, rfl, _⟩ := hv
  generalize t.length = n at *
  have q1 : decide ((100 : Int) < n) = true := decide_eq_true (by omega)
  have q1b : decide (100 < n) = true := decide_eq_true (by omega)
  go_enter Tryz.func7, Tryz.ntmps7
  have hm := Own.nil w
  go_wp2_with (first
    | (go_at_call 9; refine (lives_ok _).mono ?_; rintro e w1 ⟨rfl, hb9⟩; replace hm := hm.call hb9; clear hb9))
  go_ret
  exact ⟨rfl, hm.below⟩
set_option maxRecDepth 100000 in
set_option maxHeartbeats 1000000 in
theorem tut_2 (v : Value) (t : List Int) (by_ from_ : Int) (w : World) (hv : In .u8 w v t) (p1 : ¬ 100 < t.length) (p2 : 100 < by_) : Calls Tryz.prog 7 #[v, .int .u8 by_, .int .u8 from_] w fun e w' => e = .returned (.bool true) ∧ Below w.heap.size w w' := by
  obtain ⟨ad, cp, rfl, _⟩ := hv
  generalize t.length = n at *
  have q1 : decide ((100 : Int) < n) = false := decide_eq_false (by omega)
  have q1b : decide (100 < n) = false := decide_eq_false (by omega)
  have q2 : decide (100 < by_) = true := decide_eq_true p2
  go_enter Tryz.func7, Tryz.ntmps7
  have hm := Own.nil w
  go_wp2_with (first
    | (go_at_call 9; refine (lives_ok _).mono ?_; rintro e w1 ⟨rfl, hb9⟩; replace hm := hm.call hb9; clear hb9))
  go_ret
  exact ⟨rfl, hm.below⟩
set_option maxRecDepth 100000 in
set_option maxHeartbeats 2000000 in
theorem tut_in (v : Value) (t : List Int) (by_ from_ : Int) (w : World) (hv : In .u8 w v t) (hb : Bytes t) (p1 : t.length ≤ 100) (b0 : 0 ≤ by_) (b1 : by_ ≤ 100) (f0 : 0 ≤ from_) (f1 : from_ < 256) : Calls Tryz.prog 7 #[v, .int .u8 by_, .int .u8 from_] w fun e w' => e = .returned (.bool true) ∧ Below w.heap.size w w' := by
  have hvb : ∀ W rt, Own w W rt [] → In .u8 W v t := fun W rt h => hv.below h.below
  obtain ⟨ad, cp, rfl, _⟩ := hv
  have HV := Lib.hid hvb
  have HC : Hid (∀ W rt, Own w W rt [] → ∀ k, k < t.length → ∃ A, ad = some A ∧ W.cell? (A.add k) = some (.int .u8 (gi t k))) := Lib.hid fun W rt h k hk => by
    obtain ⟨ad2, cp2, he, hc⟩ := hvb W rt h
    cases he
    exact hc k hk
  have HB := Lib.hid hb
  have CT : Hid (∀ (W : World) (rt : List (Nat × Array Value)) (v : Value) (t : List Int), Own w W rt [] → (∀ W, Own w W rt [] → In .u8 W v t) → Bytes t → t.length ≤ 100000 → Calls Tryz.prog 32 #[v] W fun e w' => ∃ X v2, e = .returned (.tuple #[v2, .int .i64 (bwi t)]) ∧ Lies 1 X v2 t.length (vs .u8 (bwl t)) ∧ Own w w' (X ++ rt) []) := Lib.hid fun W rt v t h hv hb hn => turn_any v t w W rt [] h hv hb hn
  have CV : Hid (∀ (W : World) (rt : List (Nat × Array Value)) (v : Value) (l : List Int) (index : Nat), Own w W rt [] → (∀ W, Own w W rt [] → In .u8 W v l) → Bytes l → (l = [] ∧ index = 0 ∨ 1 ≤ index) → index ≤ l.length → l.length ≤ 1000000 → Calls Tryz.prog 33 #[v, .int .i64 index] W fun e w' => e = .returned (.bool (wval l index l.length 0)) ∧ Own w w' rt []) := Lib.hid fun W rt v l index h hv hb h1 h2 hn => valid17 v l index w W rt [] h hv hb h1 h2 hn
  have g1 : decide ((100 : Int) < t.length) = false := decide_eq_false (by omega)
  have g1b : decide (100 < t.length) = false := decide_eq_false (by omega)
  have g2 : decide (100 < by_) = false := decide_eq_false (by omega)
  obtain ⟨i3, hE3⟩ := em22
  have HE22 := Lib.hid hE3
  obtain ⟨i4, hE4⟩ := el24
  have HB5 := Lib.hid hE4
  clear hE3 hE4 hb hvb
  go_enter Tryz.func7, Tryz.ntmps7
  have hm := Own.nil w
  go_wp2_with (first
    | (with_reducible refine gMs (t := 22) ?_; (refine wpList_make_o t.length hm rfl rfl HB5.out rfl rfl (by omega) (by omega) ?_; clear hm; intro w2 g hm)))
  have hm0 : Own w w2 ((g, J .u8 (tab t.length (fun i => if i < 0 then upb by_ from_ (gi t i) else 0))) :: []) [] := by
    rw [tab_congr (g := fun _ => 0) (fun i _ => if_neg (by omega)), ← tab_zeros]
    have e : (List.replicate t.length (Value.int .u8 0)).toArray = J .u8 (List.replicate t.length 0) := by simp [J, vs]
    rw [← e]
    exact hm
  clear hm
  have hm := hm0
  clear hm0
  go_loopw [8] (fun u wr => ∃ k : Nat, k ≤ t.length ∧ u = .int .i64 k ∧ (∀ i, i < k → gi t i ≤ 100) ∧ Own w wr ((g, J .u8 (tab t.length (fun i => if i < k then upb by_ from_ (gi t i) else 0))) :: []) []) (fun u _ => t.length - (intOf u).toNat)
  case atStart => exact ⟨0, by omega, rfl, fun i hi => by omega, hm⟩
  case round =>
    clear hm
    obtain ⟨k, hk, rfl, hle, hm⟩ := hrel
    by_cases hlt : k < t.length
    · have hs := HB.out (gi t k) (by rw [gi_eq t k hlt]; exact List.getElem_mem _)
      obtain ⟨A, rfl, hA0⟩ := HC.out _ _ hm k hlt
      have hA : ∀ W rt, Own w W rt [] → W.cell? (A.add k) = some (.int .u8 (gi t k)) := fun W rt h => by
        obtain ⟨A2, he, h2⟩ := HC.out W rt h k hlt
        cases he
        exact h2
      have w3 : IntKind.i64.wrap ((k : Int) + 1) = ((k + 1 : Nat) : Int) := by rw [IntWalk.i64_in _ (by omega)]; push_cast; rfl
      by_cases h100 : 100 < gi t k
      · have q3 : decide (100 < gi t k) = true := decide_eq_true h100
        have HLE := Lib.hid hle
        clear hA0 hle hs h100
        generalize gi t k = x at *
        go_wp2_with (first
            | (with_reducible refine gIa (t := 22) ?_; (refine wpList_run rfl (exec_indexAddr_sl (k := k) rfl HB5.out rfl rfl rfl hlt) ?_))
            | (with_reducible refine gLd (t := 5) ?_; (refine wpList_run rfl (exec_loadaddr rfl rfl one5 (hA _ _ hm)) ?_))
            | (go_at_call 9; refine (lives_ok _).mono ?_; rintro e w1 ⟨rfl, hb9⟩; replace hm := hm.call hb9; clear hb9))
        go_ret
        exact ⟨rfl, hm.below⟩
      · have q3 : decide (100 < gi t k) = false := decide_eq_false h100
        have w4 : IntKind.u8.wrap (gi t k + by_) = gi t k + by_ := IntWalk.u8_in _ (by omega)
        have w5 : IntKind.u8.wrap (gi t k + by_ + 1) = gi t k + by_ + 1 := IntWalk.u8_in _ (by omega)
        have HLE : Hid (∀ i, i < k + 1 → gi t i ≤ 100) := Lib.hid fun i hi => by
          rcases Nat.lt_or_ge i k with h | h
          · exact hle i h
          · obtain rfl : i = k := by omega
            omega
        have HPG : Hid (∀ y, y = upb by_ from_ (gi t k) → tab t.length (fun j => if j = k then y else if j < k then upb by_ from_ (gi t j) else 0) = tab t.length (fun i => if i < k + 1 then upb by_ from_ (gi t i) else 0)) := Lib.hid fun y hy => tab_congr fun j _ => by
          by_cases e : j = k
          · subst e; rw [if_pos rfl, if_pos (by omega), hy]
          · rw [if_neg e]
            by_cases e2 : j < k
            · rw [if_pos e2, if_pos (by omega)]
            · rw [if_neg e2, if_neg (by omega)]
        have HP : Hid ((J .u8 (tab t.length (fun i => if i < k then upb by_ from_ (gi t i) else 0))).setIfInBounds k (.int .u8 (gi t k + by_)) = J .u8 (tab t.length (fun j => if j = k then gi t k + by_ else if j < k then upb by_ from_ (gi t j) else 0))) := Lib.hid (by rw [set_J, set_tab])
        have HP0 : Hid ((J .u8 (tab t.length (fun i => if i < k then upb by_ from_ (gi t i) else 0))).setIfInBounds (0 + k) (.int .u8 (gi t k + by_)) = J .u8 (tab t.length (fun j => if j = k then gi t k + by_ else if j < k then upb by_ from_ (gi t j) else 0))) := Lib.hid (by rw [Nat.zero_add]; exact HP.out)
        have HSZ : Hid (k < (J .u8 (tab t.length (fun i => if i < k then upb by_ from_ (gi t i) else 0))).size) := Lib.hid (by rw [size_J, len_tab]; exact hlt)
        have HSZ0 : Hid (0 + k < (J .u8 (tab t.length (fun i => if i < k then upb by_ from_ (gi t i) else 0))).size) := Lib.hid (by rw [Nat.zero_add]; exact HSZ.out)
        by_cases hfr : from_ ≤ gi t k
        · have q4 : decide (from_ ≤ gi t k) = true := decide_eq_true hfr
          have HG : Hid ((J .u8 (tab t.length (fun j => if j = k then gi t k + by_ else if j < k then upb by_ from_ (gi t j) else 0)))[k]? = some (.int .u8 (gi t k + by_))) := Lib.hid (by rw [at_tab .u8 _ hlt, if_pos rfl])
          have HG0 : Hid ((J .u8 (tab t.length (fun j => if j = k then gi t k + by_ else if j < k then upb by_ from_ (gi t j) else 0)))[0 + k]? = some (.int .u8 (gi t k + by_))) := Lib.hid (by rw [Nat.zero_add]; exact HG.out)
          have HQ : Hid ((J .u8 (tab t.length (fun j => if j = k then gi t k + by_ else if j < k then upb by_ from_ (gi t j) else 0))).setIfInBounds k (.int .u8 (gi t k + by_ + 1)) = J .u8 (tab t.length (fun i => if i < k + 1 then upb by_ from_ (gi t i) else 0))) := Lib.hid (by
            rw [set_J, set_tab, ← HPG.out (gi t k + by_ + 1) (by rw [upb, if_pos hfr])]
            congr 1
            exact tab_congr fun j _ => by
              by_cases e : j = k
              · rw [if_pos e, if_pos e]
              · rw [if_neg e, if_neg e, if_neg e])
          have HQ0 : Hid ((J .u8 (tab t.length (fun j => if j = k then gi t k + by_ else if j < k then upb by_ from_ (gi t j) else 0))).setIfInBounds (0 + k) (.int .u8 (gi t k + by_ + 1)) = J .u8 (tab t.length (fun i => if i < k + 1 then upb by_ from_ (gi t i) else 0))) := Lib.hid (by rw [Nat.zero_add]; exact HQ.out)
          have HZ2 : Hid (k < (J .u8 (tab t.length (fun j => if j = k then gi t k + by_ else if j < k then upb by_ from_ (gi t j) else 0))).size) := Lib.hid (by rw [size_J, len_tab]; exact hlt)
          have HZ20 : Hid (0 + k < (J .u8 (tab t.length (fun j => if j = k then gi t k + by_ else if j < k then upb by_ from_ (gi t j) else 0))).size) := Lib.hid (by rw [Nat.zero_add]; exact HZ2.out)
          clear hA0 hle hs h100 hfr HPG
          generalize J .u8 (tab t.length (fun i => if i < k then upb by_ from_ (gi t i) else 0)) = T1 at *
          generalize J .u8 (tab t.length (fun j => if j = k then gi t k + by_ else if j < k then upb by_ from_ (gi t j) else 0)) = T2 at *
          generalize hT3 : J .u8 (tab t.length (fun i => if i < k + 1 then upb by_ from_ (gi t i) else 0)) = T3 at *
          generalize gi t k = x at *
          go_wp2_with (first
              | (with_reducible refine gIa (t := 22) ?_; (first | (refine wpList_run rfl (ix1 (k := k) rfl HE22.out rfl rfl rfl hlt) ?_) | (refine wpList_run rfl (exec_indexAddr_sl (k := k) rfl HB5.out rfl rfl rfl hlt) ?_)))
              | (with_reducible refine gLd (t := 5) ?_; (first | (refine wpList_run rfl (ld 0 hm rfl rfl rfl (ot rfl) (by first | exact HG.out | exact HG0.out)) ?_) | (refine wpList_run rfl (exec_loadaddr rfl rfl one5 (hA _ _ hm)) ?_)))
              | (with_reducible refine gSt (t := 5) ?_; (refine list_eff rfl (eff_cell 0 hm rfl rfl (ev_tmp rfl) rfl (ot rfl) (by first | exact HSZ.out | exact HSZ0.out | exact HZ2.out | exact HZ20.out) rfl rfl (by first | exact HP.out | exact HP0.out | exact HQ.out | exact HQ0.out) ?_); clear hm; intro w hm; try simp only [puts, List.cons_append, List.nil_append, List.set] at hm)))
          go_roundw
          case rel => exact ⟨k + 1, by omega, by go_num, HLE.out, by rw [hT3]; exact hm⟩
          case measure => simp [intOf]; omega
        · have q4 : decide (from_ ≤ gi t k) = false := decide_eq_false hfr
          have HQ : Hid (J .u8 (tab t.length (fun j => if j = k then gi t k + by_ else if j < k then upb by_ from_ (gi t j) else 0)) = J .u8 (tab t.length (fun i => if i < k + 1 then upb by_ from_ (gi t i) else 0))) := Lib.hid (by rw [← HPG.out (gi t k + by_) (by rw [upb, if_neg hfr])])
          clear hA0 hle hs h100 hfr HPG
          generalize J .u8 (tab t.length (fun i => if i < k then upb by_ from_ (gi t i) else 0)) = T1 at *
          generalize J .u8 (tab t.length (fun j => if j = k then gi t k + by_ else if j < k then upb by_ from_ (gi t j) else 0)) = T2 at *
          generalize hT3 : J .u8 (tab t.length (fun i => if i < k + 1 then upb by_ from_ (gi t i) else 0)) = T3 at *
          generalize gi t k = x at *
          go_wp2_with (first
              | (with_reducible refine gIa (t := 22) ?_; (first | (refine wpList_run rfl (ix1 (k := k) rfl HE22.out rfl rfl rfl hlt) ?_) | (refine wpList_run rfl (exec_indexAddr_sl (k := k) rfl HB5.out rfl rfl rfl hlt) ?_)))
              | (with_reducible refine gLd (t := 5) ?_; (refine wpList_run rfl (exec_loadaddr rfl rfl one5 (hA _ _ hm)) ?_))
              | (with_reducible refine gSt (t := 5) ?_; (refine list_eff rfl (eff_cell 0 hm rfl rfl (ev_tmp rfl) rfl (ot rfl) (by first | exact HSZ.out | exact HSZ0.out) rfl rfl (by first | exact HP.out | exact HP0.out) ?_); clear hm; intro w hm; try simp only [puts, List.cons_append, List.nil_append, List.set] at hm)))
          go_roundw
          case rel => exact ⟨k + 1, by omega, by go_num, HLE.out, by rw [hT3, ← HQ.out]; exact hm⟩
          case measure => simp [intOf]; omega
    · obtain rfl : k = t.length := by omega
      have HLE := Lib.hid hle
      have HTY : Hid (Bytes (t.map (upb by_ from_))) := Lib.hid fun y hy => by
        obtain ⟨x, hx, rfl⟩ := List.mem_map.1 hy
        obtain ⟨i, hi, rfl⟩ := List.getElem_of_mem hx
        have h1 := HLE.out i hi
        have h2 := HB.out t[i] hx
        rw [gi_eq t i hi] at h1
        simp only [upb]
        split <;> omega
      have HMP : Hid (bwl (t.map (upb by_ from_)) = (bwl t).map (upb by_ from_) ∧ bwi (t.map (upb by_ from_)) = bwi t) := Lib.hid (bw_map t _ (fun a _ b _ => upb_mono by_ from_ a b) (fun x hx => (HB.out x hx).1) (fun x hx => (HTY.out _ (List.mem_map_of_mem hx)).1))
      have HBL : Hid ((bwl t).length = t.length) := Lib.hid (len_bwl fun x hx => (HB.out x hx).1)
      have HBI : Hid (bwi t ≤ t.length ∧ (t ≠ [] → 1 ≤ bwi t)) := Lib.hid (bwi_bound fun x hx => (HB.out x hx).1)
      have HXB : Hid (∀ k, 0 ≤ gi (bwl t) k ∧ gi (bwl t) k ≤ 100) := Lib.hid fun k => by
        by_cases hk : k < (bwl t).length
        · rcases lstk_mem t _ _ _ (gi_mem (bwl t) k hk) with h | h
          · omega
          · obtain ⟨i, hi, he⟩ := List.getElem_of_mem h
            have h1 := HLE.out i hi
            have h2 := HB.out _ h
            rw [gi_eq t i hi, he] at h1
            omega
        · have : gi (bwl t) k = 0 := by simp [gi, List.getElem?_eq_none (by omega : (bwl t).length ≤ k)]
          omega
      have HVAL : Hid (wval ((bwl t).map (upb by_ from_)) (bwi t) ((bwl t).map (upb by_ from_)).length 0 = true) := Lib.hid (by
        have h := bw_valid HTY.out
        rw [HMP.out.1, HMP.out.2, List.length_map] at h
        rw [List.length_map, HBL.out]
        exact h)
      have hm0 : Own w wr [(g, J .u8 (t.map (upb by_ from_)))] [] := by
        have e : tab t.length (fun i => if i < t.length then upb by_ from_ (gi t i) else 0) = t.map (upb by_ from_) := by
          apply List.ext_getElem
          · simp [tab]
          · intro i h1 h2
            rw [List.length_map] at h2
            simp [tab, h2, gi]
        rw [← e]
        exact hm
      have CTx : Hid (∀ W, Own w W [(g, J .u8 (t.map (upb by_ from_)))] [] → Calls Tryz.prog 32 #[.slice ad t.length cp] W fun e w' => ∃ X v2, e = .returned (.tuple #[v2, .int .i64 (bwi t)]) ∧ Lies 1 X v2 t.length (vs .u8 (bwl t)) ∧ Own w w' (X ++ [(g, J .u8 (t.map (upb by_ from_)))]) []) := Lib.hid fun W h => CT.out W _ _ t h (fun W h => HV.out W _ h) HB.out (by omega)
      have CTy : Hid (∀ (W : World) (X1 : List (Nat × Array Value)), Own w W (X1 ++ [(g, J .u8 (t.map (upb by_ from_)))]) [] → Calls Tryz.prog 32 #[.slice (some ⟨g, 0, none⟩) t.length t.length] W fun e w' => ∃ X v2, e = .returned (.tuple #[v2, .int .i64 (bwi t)]) ∧ Lies 1 X v2 t.length (vs .u8 ((bwl t).map (upb by_ from_))) ∧ Own w w' (X ++ (X1 ++ [(g, J .u8 (t.map (upb by_ from_)))])) []) := Lib.hid fun W X1 h => by
        have h1 := CT.out W _ (.slice (some ⟨g, 0, none⟩) t.length t.length) (t.map (upb by_ from_)) h (fun W h => (Lies.whole (s := 1) (g := g) (n := t.length) (xs := vs .u8 (t.map (upb by_ from_))) (by rw [length_vs, List.length_map, Nat.mul_one])).inn (A := X1) (rs := []) h) HTY.out (by rw [List.length_map]; omega)
        rw [HMP.out.1, HMP.out.2, List.length_map] at h1
        exact h1
      clear hm hle hlt hk
      have hm := hm0
      clear hm0
      go_wp2_with (first
          | (go_at_call 32; have _t := hm; first | (have _u := X1; refine (CTy.out _ _ hm).mono ?_; clear _t; clear hm; rintro e w4 ⟨X2, v2, rfl, hX, hm⟩; obtain ⟨a2, c2, rfl⟩ := hX.shape; have HX2 := Lib.hid hX; clear hX) | (refine (CTx.out _ hm).mono ?_; clear _t; clear hm; rintro e w4 ⟨X1, v1, rfl, hX, hm⟩; obtain ⟨a1, c1, rfl⟩ := hX.shape; have HX1 := Lib.hid hX; clear hX)))
      have HD1 : Hid (∀ W, Own w W (X2 ++ (X1 ++ [(g, J .u8 (t.map (upb by_ from_)))])) [] → ∀ k, k < t.length → ∃ A, a1 = some A ∧ W.cell? (A.add k) = some (.int .u8 (gi (bwl t) k))) := Lib.hid fun W h k hk => by
        obtain ⟨ad', c', he, hc⟩ := HX1.out.inn (A := X2) (rs := [_]) h
        rw [HBL.out] at he hc
        cases he
        exact hc k hk
      have HD2 : Hid (∀ W, Own w W (X2 ++ (X1 ++ [(g, J .u8 (t.map (upb by_ from_)))])) [] → ∀ k, k < t.length → ∃ A, a2 = some A ∧ W.cell? (A.add k) = some (.int .u8 (upb by_ from_ (gi (bwl t) k)))) := Lib.hid fun W h k hk => by
        obtain ⟨ad', c', he, hc⟩ := HX2.out.inn (A := []) (rs := _) h
        rw [List.length_map, HBL.out] at he hc
        cases he
        obtain ⟨A, e1, e2⟩ := hc k hk
        refine ⟨A, e1, ?_⟩
        rw [e2]
        have hkl : k < (bwl t).length := by rw [HBL.out]; exact hk
        simp [gi, hkl]
      have CV2 : Hid (∀ W, Own w W (X2 ++ (X1 ++ [(g, J .u8 (t.map (upb by_ from_)))])) [] → Calls Tryz.prog 33 #[.slice a2 t.length c2, .int .i64 (bwi t)] W fun e w' => e = .returned (.bool true) ∧ Own w w' (X2 ++ (X1 ++ [(g, J .u8 (t.map (upb by_ from_)))])) []) := Lib.hid fun W h => by
        have h1 := CV.out W _ (.slice a2 t.length c2) ((bwl t).map (upb by_ from_)) (bwi t) h (fun W h => HX2.out.inn (A := []) (rs := _) h) (by rw [← HMP.out.1]; exact bwl_bytes HTY.out) (by
          by_cases hz : t = []
          · left
            have h2 := HBL.out
            have h3 := HBI.out.1
            rw [hz] at h2 h3 ⊢
            simp at h2 h3
            exact ⟨by rw [h2]; rfl, h3⟩
          · exact .inr (HBI.out.2 hz)) (by rw [List.length_map, HBL.out]; exact HBI.out.1) (by rw [List.length_map, HBL.out]; omega)
        rw [HVAL.out] at h1
        exact h1
      clear HX1 HX2 HVAL HBI HMP HTY HLE HV HC CT CV CTx CTy HB HBL
      go_loopw [13] (fun u wr => ∃ k : Nat, k ≤ t.length ∧ u = .int .i64 k ∧ Own w wr (X2 ++ (X1 ++ [(g, J .u8 (t.map (upb by_ from_)))])) []) (fun u _ => t.length - (intOf u).toNat)
      case atStart => exact ⟨0, by omega, rfl, hm⟩
      case round =>
        clear hm
        obtain ⟨k, hk, rfl, hm⟩ := hrel
        by_cases hlt : k < t.length
        · have w3 : IntKind.i64.wrap ((k : Int) + 1) = ((k + 1 : Nat) : Int) := by rw [IntWalk.i64_in _ (by omega)]; push_cast; rfl
          have hxb := HXB.out k
          have w4 : IntKind.u8.wrap (gi (bwl t) k + by_) = gi (bwl t) k + by_ := IntWalk.u8_in _ (by omega)
          have w5 : IntKind.u8.wrap (gi (bwl t) k + by_ + 1) = gi (bwl t) k + by_ + 1 := IntWalk.u8_in _ (by omega)
          obtain ⟨A1, rfl, hA1⟩ := HD1.out _ hm k hlt
          obtain ⟨A2, rfl, hA2⟩ := HD2.out _ hm k hlt
          rw [upb] at hA2
          clear hxb
          by_cases hfr : from_ ≤ gi (bwl t) k
          · have q4 : decide (from_ ≤ gi (bwl t) k) = true := decide_eq_true hfr
            rw [if_pos hfr] at hA2
            clear hfr
            generalize gi (bwl t) k = x at *
            go_wp2_with (first
              | (with_reducible refine gIa (t := 22) ?_; (refine wpList_run rfl (exec_indexAddr_sl (k := k) rfl HB5.out rfl rfl rfl hlt) ?_))
              | (with_reducible refine gLd (t := 5) ?_; (first | (refine wpList_run rfl (exec_loadaddr rfl rfl one5 hA1) ?_) | (refine wpList_run rfl (exec_loadaddr rfl rfl one5 hA2) ?_))))
            go_roundw
            case rel => exact ⟨k + 1, by omega, by go_num, hm⟩
            case measure => simp [intOf]; omega
          · have q4 : decide (from_ ≤ gi (bwl t) k) = false := decide_eq_false hfr
            rw [if_neg hfr] at hA2
            clear hfr
            generalize gi (bwl t) k = x at *
            go_wp2_with (first
              | (with_reducible refine gIa (t := 22) ?_; (refine wpList_run rfl (exec_indexAddr_sl (k := k) rfl HB5.out rfl rfl rfl hlt) ?_))
              | (with_reducible refine gLd (t := 5) ?_; (first | (refine wpList_run rfl (exec_loadaddr rfl rfl one5 hA1) ?_) | (refine wpList_run rfl (exec_loadaddr rfl rfl one5 hA2) ?_))))
            go_roundw
            case rel => exact ⟨k + 1, by omega, by go_num, hm⟩
            case measure => simp [intOf]; omega
        · obtain rfl : k = t.length := by omega
          go_wp2_with (first
              | (go_at_call 33; have _t := hm; refine (CV2.out _ hm).mono ?_; clear _t; clear hm; rintro e w4 ⟨rfl, hm⟩)
              | (go_at_call 9; refine (lives_ok _).mono ?_; rintro e w1 ⟨rfl, hb9⟩; replace hm := hm.call hb9; clear hb9))
          go_ret
          exact ⟨rfl, hm.below⟩
end Go.Proofs.YtkpbhdhkdonghaaGreat
