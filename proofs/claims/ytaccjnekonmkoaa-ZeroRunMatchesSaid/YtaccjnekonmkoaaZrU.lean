/-
  The walk of the reference winepressref14.Unfold.
-/
import Derived.Test.YtaccjnekonmkoaaZrT
namespace Go.Proofs.Ytaccjnekonmkoaa
open Go Go.RowKit

/-- What one round of the reference makes of its digits. -/
theorem ugo_seg {most : Int} {l : List Int} {i k : Nat} {out : List Int} (hik : i ≤ k) (hk : k ≤ l.length) (hd : ∀ j, i ≤ j → j < k → gi l j = 0 ∨ gi l j = 1) (ho : (out.length : Int) ≤ most) :
    ugo most (l.drop i) 0 0 out = if (numO (seg l i k)).2 = 0 ∧ (numO (seg l i k)).1 ≤ most - out.length then ugo most (l.drop k) (numO (seg l i k)).1 (k - i) out else ([], 2) := by
  rw [seg_split hik, ugo_num most out _ _ 0 0 (seg_all hk (fun x => x = 0 ∨ x = 1) hd), seg_len hk, Nat.zero_add]
  show (if (numO (seg l i k)).2 = 0 ∧ (seg l i k = [] ∨ (numO (seg l i k)).1 ≤ most - out.length) then _ else _) = _
  by_cases h0 : seg l i k = []
  · have e : numO (seg l i k) = (0, 0) := by rw [h0]; rfl
    rw [e]
    rw [if_pos ⟨rfl, .inl h0⟩, if_pos ⟨rfl, by show (0 : Int) ≤ _; omega⟩]
    show ugo most _ (numO (seg l i k)).1 _ _ = _
    rw [e]
  · by_cases hq : (numO (seg l i k)).2 = 0 ∧ (numO (seg l i k)).1 ≤ most - out.length
    · rw [if_pos ⟨hq.1, .inr hq.2⟩, if_pos hq]
      rfl
    · rw [if_neg (fun h => hq ⟨h.1, h.2.resolve_left h0⟩), if_neg hq]
theorem ugo_neg {most : Int} (hm : most < 0) : ∀ (l : List Int) (run : Int) (many : Nat) (out : List Int), 0 ≤ run → out = [] → ugo most l run many out = ([], 2)
  | [], run, many, out, _, _ => by rw [ugo, if_pos hm]
  | s :: l, run, many, out, hr, ho => by
    subst ho
    rw [ugo]
    split
    · have := addV_pos run many s
      rw [if_neg (fun h => by have := h.2; simp at this; omega)]
    · rw [if_neg (fun h => by have := h.2.2; simp at this; omega)]
theorem num_pos (l : List Int) : 0 ≤ (numO l).1 := by
  rcases numF_two l 0 0 with h | h
  · exact numF_ge l 0 0 h
  · rw [numO, h]; omega

set_option maxRecDepth 100000 in
set_option maxHeartbeats 4000000 in
/-- **winepressref14.Unfold**, at every limit of at most 100000 and every list. -/
theorem runfold_in (most : Int) (v : Value) (l : List Int) (w : World) (hv : InC .i64 w v l) (hl : l.length ≤ 1000) (hmo : most ≤ 100000) (hm0 : ¬ most < 0) : Calls Try.prog 44 #[.int .i64 most, v] w (ListPost w (unfoldO most l).1 (unfoldO most l).2) := by
  have HI := Lib.hid hv
  obtain ⟨ad, cp, rfl, hcp, hc⟩ := hv
  obtain ⟨i3, hE⟩ := el39
  have HE := Lib.hid hE
  have HC := Lib.hid hc
  clear hE hc
  go_enter Try.func44, Try.ntmps44
  have hm := (Own.nil w).addNil 3
  go_wp2_with fail
  go_loopw [6, 7] (fun o u wr => ∃ (i : Nat) (out : List Int) (ao : Option Addr) (co : Nat), i ≤ l.length ∧ o = .slice ao out.length co ∧ u = .int .i64 i ∧ (out.length : Int) ≤ most ∧ unfoldO most l = ugo most (l.drop i) 0 0 out ∧ Own w wr [] [(.slice ao out.length co, 3, vs .i64 out)]) (fun _ u _ => l.length - (intOf u).toNat)
  case atStart => exact ⟨0, [], none, 0, by omega, rfl, rfl, by simp; omega, rfl, hm⟩
  case round =>
    obtain ⟨i, out, ao, co, hi, rfl, rfl, hout, hx, hmr⟩ := hrel
    clear hm
    have HX0 := Lib.hid hx
    clear hx
    by_cases hlt : i < l.length
    · obtain ⟨A, rfl, _⟩ := HC.out i hlt
      go_wp2_with fail
      go_loopw [8] (fun z wq => ∃ k : Nat, i ≤ k ∧ k ≤ l.length ∧ z = .int .i64 k ∧ Hid (∀ j, i ≤ j → j < k → gi l j = 0 ∨ gi l j = 1) ∧ Own w wq [] [(.slice ao out.length co, 3, vs .i64 out)]) (fun z _ => l.length - (intOf z).toNat)
      case atStart => exact ⟨i, by omega, by omega, rfl, Lib.hid (fun j h1 h2 => absurd h2 (by omega)), hmr⟩
      case round =>
        obtain ⟨k, hik, hkl, rfl, HZ, hmq⟩ := hrel
        clear hmr
        by_cases hstop : k < l.length ∧ (gi l k = 0 ∨ gi l k = 1)
        · obtain ⟨hkl2, hz⟩ := hstop
          obtain ⟨A', hA', hB0⟩ := HC.out k hkl2
          obtain rfl : A = A' := by injection hA'
          have HZ2 : Hid (∀ j, i ≤ j → j < k + 1 → gi l j = 0 ∨ gi l j = 1) := Lib.hid (fun j h1 h2 => by
            by_cases e : j = k
            · rw [e]; exact hz
            · exact HZ.out j h1 (by omega))
          have hB1 : wr.cell? (A.add k) = some (.int .i64 (gi l k)) := by rw [hmq.below.cell (block_lt_of_cell hB0), hB0]
          clear hA' hB0
          rcases hz with hz | hz
          · rw [hz] at hB1
            clear hz
            go_wp2_with (first
            | (refine wpList_run rfl (exec_indexAddr_sl rfl HE.out rfl rfl rfl hkl2) ?_)
            | (refine wpList_run rfl (exec_loadaddr rfl rfl one3 hB1) ?_))
            go_roundw
            case rel => exact ⟨k + 1, by omega, by omega, by go_num, HZ2, hmq⟩
            case measure => simp [intOf]; omega
          · rw [hz] at hB1
            clear hz
            go_wp2_with (first
            | (refine wpList_run rfl (exec_indexAddr_sl rfl HE.out rfl rfl rfl hkl2) ?_)
            | (refine wpList_run rfl (exec_loadaddr rfl rfl one3 hB1) ?_))
            go_roundw
            case rel => exact ⟨k + 1, by omega, by omega, by go_num, HZ2, hmq⟩
            case measure => simp [intOf]; omega
        · have HS : Hid (k < l.length → ¬ (gi l k = 0 ∨ gi l k = 1)) := Lib.hid (fun h1 h2 => hstop ⟨h1, h2⟩)
          clear hstop
          have hx := HX0.out
          rw [ugo_seg hik hkl HZ.out hout] at hx
          have HN := Lib.hid (numF_two (seg l i k) 0 0)
          have HSEG : Hid (InC .i64 w (.slice (subAt (some A) cp i) (k - i) (cp - i)) (seg l i k)) := Lib.hid (HI.out.sub hik hkl)
          have CN : Hid (∀ wz, Below w.heap.size w wz → Calls Try.prog 37 #[.slice (subAt (some A) cp i) (k - i) (cp - i)] wz (PairPost wz (numO (seg l i k)).1 (numO (seg l i k)).2)) := Lib.hid (fun wz hb => rnumber_any _ _ wz (HSEG.out.below hb).toIn (by rw [seg_len hkl]; omega))
          have hnp := num_pos (seg l i k)
          have hN2 : (numO (seg l i k)).2 = 0 ∨ (numO (seg l i k)).2 = 2 := by
            rcases HN.out with h | h
            · exact .inl h
            · right; rw [numO, h]
          have hwm : IntKind.i64.wrap (most - out.length) = most - out.length := IntWalk.i64_in _ (by omega)
          have hik' : (i : Int) ≤ k := by omega
          have hkc : k ≤ cp := by omega
          clear HX0 HZ HN HSEG
          generalize (numO (seg l i k)).1 = N at *
          generalize (numO (seg l i k)).2 = E at *
          have HX := Lib.hid hx
          clear hx
          -- the last look of the scan
          by_cases hkl2 : k < l.length
          · obtain ⟨A', hA', hB0⟩ := HC.out k hkl2
            obtain rfl : A = A' := by injection hA'
            have hB : wr.cell? (A.add k) = some (.int .i64 (gi l k)) := (hmq.below.cell (block_lt_of_cell hB0)).trans hB0
            have hne := HS.out hkl2
            have hstep := drop_cons0 l k hkl2
            have HST := Lib.hid hstep
            clear hA' HS hstep
            have HB0 := Lib.hid hB0
            clear hB0
            generalize gi l k = y at *
            have y0 : ¬ y = 0 := fun h => hne (.inl h)
            have y1 : ¬ y = 1 := fun h => hne (.inr h)
            clear hne
            have d1 : (y == 0) = false := by simpa using y0
            have d2 : (y == 1) = false := by simpa using y1
            have d3 : decide (y = 0) = false := decide_eq_false y0
            have d4 : decide (y = 1) = false := decide_eq_false y1
            by_cases hE0 : E = 0
            · subst hE0
              by_cases hfit : N ≤ most - out.length
              · obtain ⟨n, rfl⟩ := Int.eq_ofNat_of_zero_le hnp
                have f1 : ¬ most - out.length < (n : Int) := by omega
                have f2 : decide (most - out.length < (n : Int)) = false := decide_eq_false f1
                have hx := HX.out
                rw [if_pos ⟨rfl, hfit⟩] at hx
                have HX2 := Lib.hid hx
                clear hx HX hN2
                go_wp2_with (first
            | (refine wpList_run rfl (exec_indexAddr_sl rfl HE.out rfl rfl rfl hkl2) ?_)
            | (refine wpList_run rfl (exec_loadaddr rfl rfl one3 hB) ?_)
            | (refine wpList_run rfl (exec_sub rfl HE.out rfl (.inr ⟨_, rfl⟩) (.inr ⟨_, rfl⟩) hik hkc) ?_)
            | (go_at_call 37; have _t := hmq; refine (CN.out _ hmq.below).mono ?_; rintro e w1 ⟨rfl, hb1⟩; have hm1 := hmq.call hb1; clear hmq))
                go_loopw [6, 11] (fun o u wq => ∃ (j : Nat) (aj : Option Addr) (cj : Nat), j ≤ n ∧ o = .slice aj (out ++ List.replicate j 0).length cj ∧ u = .int .i64 j ∧ Own w wq [] [(.slice aj (out ++ List.replicate j 0).length cj, 3, vs .i64 (out ++ List.replicate j 0))]) (fun _ u _ => n - (intOf u).toNat)
                case atStart => exact ⟨0, ao, co, by omega, by simp, rfl, by simpa using hm1⟩
                case round =>
                  obtain ⟨j, aj, cj, hj, rfl, rfl, hmj⟩ := hrel
                  clear hm1
                  have hlen : (out ++ List.replicate j (0 : Int)).length = out.length + j := by simp
                  by_cases hjn : j < n
                  · have hcons : out ++ List.replicate (j + 1) 0 = (out ++ List.replicate j 0) ++ [0] := by rw [List.replicate_succ']; simp
                    have HCO := Lib.hid hcons
                    clear hcons
                    have hle : (out ++ List.replicate j (0 : Int)).length ≤ 100000 := by omega
                    clear hlen
                    generalize out ++ List.replicate j 0 = oz at *
                    go_wp2_with (first
                      | (refine wpList_build1_o (v := .int .i64 0) hmj rfl rfl HE.out rfl rfl ?_; intro w3 g3 hm3; clear hmj)
                      | (refine wpList_append_o 0 hm3 rfl rfl HE.out rfl rfl rfl (Src.one (hm3.row 0 rfl)) (one_list _ rfl) (by simp only [length_vs, List.length_cons, List.length_nil]; omega) (by simp only [length_vs, List.length_cons, List.length_nil]; omega) ?_; intro ad4 c4 w4 hm4; simp only [List.set] at hm4; clear hm3))
                    go_roundw
                    case rel =>
                      have e : vs .i64 oz ++ [Value.int .i64 0] = vs .i64 (oz ++ [0]) := by simp [vs]
                      have e2 : (vs .i64 oz).length + 1 = (oz ++ [0]).length := by simp [length_vs]
                      have e3 : (vs .i64 oz).length + [Value.int .i64 0].length = (oz ++ [0]).length := by simp [length_vs]
                      rw [e] at hm4
                      refine ⟨j + 1, ad4, c4, by omega, ?_, by go_num, ?_⟩
                      · rw [HCO.out, ← e2]
                      · rw [HCO.out, ← e3]; exact hm4.dropRow
                    case measure => simp [intOf]; omega
                  · obtain rfl : j = n := by omega
                    have hx := HX2.out
                    rw [HST.out, ugo, if_neg (by omega)] at hx
                    have hB2 : wr.cell? (A.add k) = some (.int .i64 y) := (hmj.below.cell (block_lt_of_cell HB0.out)).trans HB0.out
                    have n1 : ((k : Int) == (l.length : Int)) = false := by simp; omega
                    have n2 : ¬ (k : Int) = (l.length : Int) := by omega
                    clear HX2 hB
                    by_cases hlo : y < 0
                    · rw [if_neg (by omega)] at hx
                      have HX3 := Lib.hid hx
                      clear hx hlen
                      generalize out ++ List.replicate j 0 = oz at *
                      go_wp2_with (first
            | (refine wpList_run rfl (exec_indexAddr_sl rfl HE.out rfl rfl rfl hkl2) ?_)
            | (refine wpList_run rfl (exec_loadaddr rfl rfl one3 hB2) ?_))
                      go_ret2
                      exact ⟨⟨_, by rw [HX3.out]; rfl, by rw [HX3.out]; exact World.ownsRow_nil _ _ _ _⟩, hmj.below⟩
                    by_cases hhi : 256 < y
                    · rw [if_neg (by omega)] at hx
                      have HX3 := Lib.hid hx
                      clear hx hlen
                      generalize out ++ List.replicate j 0 = oz at *
                      go_wp2_with (first
            | (refine wpList_run rfl (exec_indexAddr_sl rfl HE.out rfl rfl rfl hkl2) ?_)
            | (refine wpList_run rfl (exec_loadaddr rfl rfl one3 hB2) ?_))
                      go_ret2
                      exact ⟨⟨_, by rw [HX3.out]; rfl, by rw [HX3.out]; exact World.ownsRow_nil _ _ _ _⟩, hmj.below⟩
                    by_cases hful : (j : Int) < most - out.length
                    · rw [if_pos ⟨by omega, by omega, hful⟩, Int.toNat_natCast] at hx
                      have q1 : ¬ ((out ++ List.replicate j (0 : Int)).length : Int) = most := by omega
                      have q2 : (((out ++ List.replicate j (0 : Int)).length : Int) == most) = false := by simpa using q1
                      have q3 : decide (((out ++ List.replicate j (0 : Int)).length : Int) = most) = false := decide_eq_false q1
                      have q4 : ((out ++ List.replicate j (0 : Int)).length : Int) + 1 ≤ most := by omega
                      have HX3 := Lib.hid hx
                      have hw : IntKind.i64.wrap (y - 1) = y - 1 := IntWalk.i64_in _ (by omega)
                      clear hx hlen
                      generalize out ++ List.replicate j 0 = oz at *
                      go_wp2_with (first
            | (refine wpList_run rfl (exec_indexAddr_sl rfl HE.out rfl rfl rfl hkl2) ?_)
            | (refine wpList_run rfl (exec_loadaddr rfl rfl one3 hB2) ?_)
            | (refine wpList_build1_o (v := .int .i64 (y - 1)) hmj rfl rfl HE.out rfl rfl ?_; intro w3 g3 hm3; clear hmj)
            | (refine wpList_append_o 0 hm3 rfl rfl HE.out rfl rfl rfl (Src.one (hm3.row 0 rfl)) (one_list _ rfl) (by simp only [length_vs, List.length_cons, List.length_nil]; omega) (by simp only [length_vs, List.length_cons, List.length_nil]; omega) ?_; intro ad4 c4 w4 hm4; simp only [List.set] at hm4; clear hm3))
                      go_roundw
                      case rel =>
                        have e : vs .i64 oz ++ [Value.int .i64 (y - 1)] = vs .i64 (oz ++ [y - 1]) := by simp [vs]
                        have e2 : (vs .i64 oz).length + 1 = (oz ++ [y - 1]).length := by simp [length_vs]
                        have e3 : (vs .i64 oz).length + [Value.int .i64 (y - 1)].length = (oz ++ [y - 1]).length := by simp [length_vs]
                        rw [e] at hm4
                        refine ⟨k + 1, oz ++ [y - 1], ad4, c4, by omega, by rw [← e2], by go_num, by rw [← e2, length_vs]; omega, HX3.out, by rw [← e3]; exact hm4.dropRow⟩
                      case measure => simp [intOf]; omega
                    · rw [if_neg (by omega)] at hx
                      have q1 : ((out ++ List.replicate j (0 : Int)).length : Int) = most := by omega
                      have q2 : (((out ++ List.replicate j (0 : Int)).length : Int) == most) = true := by simpa using q1
                      have q3 : decide (((out ++ List.replicate j (0 : Int)).length : Int) = most) = true := decide_eq_true q1
                      have HX3 := Lib.hid hx
                      clear hx hlen q1
                      generalize out ++ List.replicate j 0 = oz at *
                      go_wp2_with (first
            | (refine wpList_run rfl (exec_indexAddr_sl rfl HE.out rfl rfl rfl hkl2) ?_)
            | (refine wpList_run rfl (exec_loadaddr rfl rfl one3 hB2) ?_))
                      go_ret2
                      exact ⟨⟨_, by rw [HX3.out]; rfl, by rw [HX3.out]; exact World.ownsRow_nil _ _ _ _⟩, hmj.below⟩
              · have f1 : most - out.length < N := by omega
                have f2 : decide (most - out.length < N) = true := decide_eq_true f1
                have hx := HX.out
                rw [if_neg (fun h => hfit h.2)] at hx
                have HX2 := Lib.hid hx
                clear hx HX hN2
                go_wp2_with (first
            | (refine wpList_run rfl (exec_indexAddr_sl rfl HE.out rfl rfl rfl hkl2) ?_)
            | (refine wpList_run rfl (exec_loadaddr rfl rfl one3 hB) ?_)
            | (refine wpList_run rfl (exec_sub rfl HE.out rfl (.inr ⟨_, rfl⟩) (.inr ⟨_, rfl⟩) hik hkc) ?_)
            | (go_at_call 37; have _t := hmq; refine (CN.out _ hmq.below).mono ?_; rintro e w1 ⟨rfl, hb1⟩; have hm1 := hmq.call hb1; clear hmq))
                go_ret2
                exact ⟨⟨_, by rw [HX2.out]; rfl, by rw [HX2.out]; exact World.ownsRow_nil _ _ _ _⟩, hm1.below⟩
            · obtain rfl : E = 2 := hN2.resolve_left hE0
              have hx := HX.out
              rw [if_neg (fun h => hE0 h.1)] at hx
              have HX2 := Lib.hid hx
              clear hx HX hN2
              go_wp2_with (first
            | (refine wpList_run rfl (exec_indexAddr_sl rfl HE.out rfl rfl rfl hkl2) ?_)
            | (refine wpList_run rfl (exec_loadaddr rfl rfl one3 hB) ?_)
            | (refine wpList_run rfl (exec_sub rfl HE.out rfl (.inr ⟨_, rfl⟩) (.inr ⟨_, rfl⟩) hik hkc) ?_)
            | (go_at_call 37; have _t := hmq; refine (CN.out _ hmq.below).mono ?_; rintro e w1 ⟨rfl, hb1⟩; have hm1 := hmq.call hb1; clear hmq))
              go_ret2
              exact ⟨⟨_, by rw [HX2.out]; rfl, by rw [HX2.out]; exact World.ownsRow_nil _ _ _ _⟩, hm1.below⟩
          · obtain rfl : k = l.length := by omega
            clear HS
            by_cases hE0 : E = 0
            · subst hE0
              by_cases hfit : N ≤ most - out.length
              · obtain ⟨n, rfl⟩ := Int.eq_ofNat_of_zero_le hnp
                have f1 : ¬ most - out.length < (n : Int) := by omega
                have f2 : decide (most - out.length < (n : Int)) = false := decide_eq_false f1
                have hx := HX.out
                rw [if_pos ⟨rfl, hfit⟩] at hx
                have HX2 := Lib.hid hx
                clear hx HX hN2
                go_wp2_with (first
            | (refine wpList_run rfl (exec_sub rfl HE.out rfl (.inr ⟨_, rfl⟩) (.inr ⟨_, rfl⟩) hik hkc) ?_)
            | (go_at_call 37; have _t := hmq; refine (CN.out _ hmq.below).mono ?_; rintro e w1 ⟨rfl, hb1⟩; have hm1 := hmq.call hb1; clear hmq))
                go_loopw [6, 11] (fun o u wq => ∃ (j : Nat) (aj : Option Addr) (cj : Nat), j ≤ n ∧ o = .slice aj (out ++ List.replicate j 0).length cj ∧ u = .int .i64 j ∧ Own w wq [] [(.slice aj (out ++ List.replicate j 0).length cj, 3, vs .i64 (out ++ List.replicate j 0))]) (fun _ u _ => n - (intOf u).toNat)
                case atStart => exact ⟨0, ao, co, by omega, by simp, rfl, by simpa using hm1⟩
                case round =>
                  obtain ⟨j, aj, cj, hj, rfl, rfl, hmj⟩ := hrel
                  clear hm1
                  have hlen : (out ++ List.replicate j (0 : Int)).length = out.length + j := by simp
                  by_cases hjn : j < n
                  · have hcons : out ++ List.replicate (j + 1) 0 = (out ++ List.replicate j 0) ++ [0] := by rw [List.replicate_succ']; simp
                    have HCO := Lib.hid hcons
                    clear hcons
                    have hle : (out ++ List.replicate j (0 : Int)).length ≤ 100000 := by omega
                    clear hlen
                    generalize out ++ List.replicate j 0 = oz at *
                    go_wp2_with (first
                      | (refine wpList_build1_o (v := .int .i64 0) hmj rfl rfl HE.out rfl rfl ?_; intro w3 g3 hm3; clear hmj)
                      | (refine wpList_append_o 0 hm3 rfl rfl HE.out rfl rfl rfl (Src.one (hm3.row 0 rfl)) (one_list _ rfl) (by simp only [length_vs, List.length_cons, List.length_nil]; omega) (by simp only [length_vs, List.length_cons, List.length_nil]; omega) ?_; intro ad4 c4 w4 hm4; simp only [List.set] at hm4; clear hm3))
                    go_roundw
                    case rel =>
                      have e : vs .i64 oz ++ [Value.int .i64 0] = vs .i64 (oz ++ [0]) := by simp [vs]
                      have e2 : (vs .i64 oz).length + 1 = (oz ++ [0]).length := by simp [length_vs]
                      have e3 : (vs .i64 oz).length + [Value.int .i64 0].length = (oz ++ [0]).length := by simp [length_vs]
                      rw [e] at hm4
                      refine ⟨j + 1, ad4, c4, by omega, ?_, by go_num, ?_⟩
                      · rw [HCO.out, ← e2]
                      · rw [HCO.out, ← e3]; exact hm4.dropRow
                    case measure => simp [intOf]; omega
                  · obtain rfl : j = n := by omega
                    have HX3 : Hid (unfoldO most l = (out ++ List.replicate j 0, 0)) := by
                      show _ = _
                      rw [HX2.out, List.drop_length, ugo, if_neg (by omega), Int.toNat_natCast]
                    clear HX2 hlen
                    generalize out ++ List.replicate j 0 = oz at *
                    go_wp2_with fail
                    go_ret2
                    have hg := hmj.get 0 rfl
                    dsimp only at hg
                    exact ⟨⟨_, by rw [HX3.out]; rfl, by rw [HX3.out]; exact own_len0 hg⟩, hmj.below⟩
              · have f1 : most - out.length < N := by omega
                have f2 : decide (most - out.length < N) = true := decide_eq_true f1
                have hx := HX.out
                rw [if_neg (fun h => hfit h.2)] at hx
                have HX2 := Lib.hid hx
                clear hx HX hN2
                go_wp2_with (first
            | (refine wpList_run rfl (exec_sub rfl HE.out rfl (.inr ⟨_, rfl⟩) (.inr ⟨_, rfl⟩) hik hkc) ?_)
            | (go_at_call 37; have _t := hmq; refine (CN.out _ hmq.below).mono ?_; rintro e w1 ⟨rfl, hb1⟩; have hm1 := hmq.call hb1; clear hmq))
                go_ret2
                exact ⟨⟨_, by rw [HX2.out]; rfl, by rw [HX2.out]; exact World.ownsRow_nil _ _ _ _⟩, hm1.below⟩
            · obtain rfl : E = 2 := hN2.resolve_left hE0
              have hx := HX.out
              rw [if_neg (fun h => hE0 h.1)] at hx
              have HX2 := Lib.hid hx
              clear hx HX hN2
              go_wp2_with (first
            | (refine wpList_run rfl (exec_sub rfl HE.out rfl (.inr ⟨_, rfl⟩) (.inr ⟨_, rfl⟩) hik hkc) ?_)
            | (go_at_call 37; have _t := hmq; refine (CN.out _ hmq.below).mono ?_; rintro e w1 ⟨rfl, hb1⟩; have hm1 := hmq.call hb1; clear hmq))
              go_ret2
              exact ⟨⟨_, by rw [HX2.out]; rfl, by rw [HX2.out]; exact World.ownsRow_nil _ _ _ _⟩, hm1.below⟩
    · obtain rfl : i = l.length := by omega
      have HX : Hid (unfoldO most l = (out, 0)) := by
        show unfoldO most l = _
        rw [HX0.out, List.drop_length, ugo, if_neg (by omega)]
        simp
      clear HX0
      go_wp2_with fail
      go_ret2
      have hg := hmr.get 0 rfl
      dsimp only at hg
      exact ⟨⟨_, by rw [HX.out]; rfl, by rw [HX.out]; exact own_len0 hg⟩, hmr.below⟩

set_option maxRecDepth 100000 in
set_option maxHeartbeats 1000000 in
theorem runfold_neg (most : Int) (v : Value) (w : World) (hm0 : most < 0) : Calls Try.prog 44 #[.int .i64 most, v] w (ListPost w [] 2) := by
  go_enter Try.func44, Try.ntmps44
  have hm := Own.nil w
  go_wp2_with fail
  go_ret2
  exact ⟨⟨_, rfl, World.ownsRow_nil _ _ _ _⟩, hm.below⟩
theorem runfold_any (most : Int) (v : Value) (l : List Int) (w : World) (hv : InC .i64 w v l) (hl : l.length ≤ 1000) (hmo : most ≤ 100000) : Calls Try.prog 44 #[.int .i64 most, v] w (ListPost w (unfoldO most l).1 (unfoldO most l).2) := by
  by_cases h : most < 0
  · have e : unfoldO most l = ([], 2) := ugo_neg h l 0 0 [] (Int.le_refl _) rfl
    rw [e]
    exact runfold_neg most v w h
  · exact runfold_in most v l w hv hl hmo h
end Go.Proofs.Ytaccjnekonmkoaa
