/-
  The walk of zerorun.Unfold.
-/
import Derived.Test.YtaccjnekonmkoaaZrF
import Derived.Test.YtaccjnekonmkoaaZap
namespace Go.Proofs.Ytaccjnekonmkoaa
open Go Go.RowKit

/-- What Unfold makes of the symbols that are still to come. -/
def ugo (most : Int) : List Int → Int → Nat → List Int → List Int × Int
  | [], run, _, out => if most < 0 then ([], 2) else (out ++ List.replicate run.toNat 0, 0)
  | s :: l, run, many, out => if s = 0 ∨ s = 1 then (if addE run many s = 0 ∧ addV run many s ≤ most - out.length then ugo most l (addV run many s) (many + 1) out else ([], 2))
    else if 0 ≤ s ∧ s < 257 ∧ run < most - out.length then ugo most l 0 0 (out ++ List.replicate run.toNat 0 ++ [s - 1]) else ([], 2)
def unfoldO (most : Int) (l : List Int) : List Int × Int := ugo most l 0 0 []
theorem ugo_step (most : Int) (l : List Int) (k : Nat) (h : k < l.length) (run : Int) (many : Nat) (out : List Int) : ugo most (l.drop k) run many out = if gi l k = 0 ∨ gi l k = 1 then (if addE run many (gi l k) = 0 ∧ addV run many (gi l k) ≤ most - out.length then ugo most (l.drop (k + 1)) (addV run many (gi l k)) (many + 1) out else ([], 2))
    else if 0 ≤ gi l k ∧ gi l k < 257 ∧ run < most - out.length then ugo most (l.drop (k + 1)) 0 0 (out ++ List.replicate run.toNat 0 ++ [gi l k - 1]) else ([], 2) := by
  rw [drop_cons0 l k h]; rfl
theorem addV_pos (n k d : Int) : 0 ≤ addV n k d := by
  unfold addV
  split
  · rename_i h
    obtain ⟨⟨h1, _, _, _, hd⟩, _⟩ := h
    unfold addS
    have hp : (0 : Int) ≤ 2 ^ k.toNat := by
      have := (pow_le k.toNat (by omega)).1
      omega
    have : 0 ≤ (1 + d) * (2 : Int) ^ k.toNat := Int.mul_nonneg (by omega) hp
    omega
  · omega
theorem zeros_vs (k : Nat) : List.replicate k (Value.int .i64 0) = vs .i64 (List.replicate k 0) := by simp [vs]

set_option maxRecDepth 100000 in
set_option maxHeartbeats 4000000 in
/-- **zerorun.Unfold**, at every limit of at most 100000 and every list. -/
theorem unfold_any (most : Int) (v : Value) (l : List Int) (w : World) (hv : In .i64 w v l) (hl : l.length ≤ 1000) (hmo : most ≤ 100000) (hlo : -9223372036854775808 ≤ most) : Calls Try.prog 43 #[.int .i64 most, v] w (ListPost w (unfoldO most l).1 (unfoldO most l).2) := by
  obtain ⟨ad, cp, rfl, hc⟩ := hv
  obtain ⟨i3, hE⟩ := el39
  have HE := Lib.hid hE
  have HC := Lib.hid hc
  clear hE hc
  go_enter Try.func43, Try.ntmps43
  have hm := (Own.nil w).addNil 3
  go_wp2_with fail
  go_loopw [4, 6, 7, 12] (fun o r y u wr => ∃ (k many : Nat) (run : Int) (out : List Int) (ao : Option Addr) (co : Nat), k ≤ l.length ∧ o = .slice ao out.length co ∧ r = .int .i64 run ∧ y = .int .i64 many ∧ u = .int .i64 k ∧ many ≤ k ∧ 0 ≤ run ∧ run + out.length ≤ 100000 ∧ (out.length = 0 ∨ (out.length : Int) ≤ most) ∧ unfoldO most l = ugo most (l.drop k) run many out ∧ Own w wr [] [(.slice ao out.length co, 3, vs .i64 out)]) (fun _ _ _ u _ => l.length - (intOf u).toNat)
  case atStart => exact ⟨0, 0, 0, [], none, 0, by omega, rfl, rfl, rfl, rfl, by omega, by omega, by simp, .inl rfl, rfl, hm⟩
  case round =>
    obtain ⟨k, many, run, out, ao, co, hk, rfl, rfl, rfl, rfl, hmk, hr0, hr1, hom, hx, hmr⟩ := hrel
    clear hm
    have hwm : IntKind.i64.wrap (most - out.length) = most - out.length := IntWalk.i64_in _ (by omega)
    by_cases hlt : k < l.length
    · obtain ⟨A, rfl, hA0⟩ := HC.out k hlt
      have hA : wr.cell? (A.add k) = some (.int .i64 (gi l k)) := (hmr.below.cell (block_lt_of_cell hA0)).trans hA0
      rw [ugo_step most l k hlt] at hx
      clear hA0
      generalize gi l k = s at *
      by_cases hs : s = 0
      · subst hs
        rw [if_pos (by omega)] at hx
        have CA : Hid (∀ w, Calls Try.prog 38 #[.int .i64 run, .int .i64 many, .int .i64 0] w (PairPost w (addV run many 0) (addE run many 0))) := fun w => add_any run many 0 w
        have hV0 := addV_pos run many 0
        generalize addV run many 0 = V at *
        by_cases hE0 : addE run many 0 = 0
        · rw [hE0] at CA hx
          by_cases hfit : V ≤ most - out.length
          · rw [if_pos ⟨rfl, hfit⟩] at hx
            have HX := Lib.hid hx
            clear hx hE0
            have f1 : ¬ most - out.length < V := by omega
            have f2 : decide (most - out.length < V) = false := decide_eq_false f1
            go_wp2_with (first
              | (refine wpList_run rfl (exec_indexAddr_sl rfl HE.out rfl rfl rfl hlt) ?_)
              | (refine wpList_run rfl (exec_loadaddr rfl rfl one3 hA) ?_)
              | (go_at_call 38; have _t := hmr; refine (CA.out _).mono ?_; rintro e w2 ⟨rfl, hb2⟩; have hm2 := hmr.call hb2; clear hmr))
            go_roundw
            case rel => exact ⟨k + 1, many + 1, V, out, ao, co, by omega, rfl, rfl, by go_num, by go_num, by omega, hV0, by omega, hom, HX.out, hm2⟩
            case measure => simp [intOf]; omega
          · rw [if_neg (fun h => hfit h.2)] at hx
            have HX := Lib.hid hx
            clear hx hE0
            have f1 : most - out.length < V := by omega
            have f2 : decide (most - out.length < V) = true := decide_eq_true f1
            go_wp2_with (first
              | (refine wpList_run rfl (exec_indexAddr_sl rfl HE.out rfl rfl rfl hlt) ?_)
              | (refine wpList_run rfl (exec_loadaddr rfl rfl one3 hA) ?_)
              | (go_at_call 38; have _t := hmr; refine (CA.out _).mono ?_; rintro e w2 ⟨rfl, hb2⟩; have hm2 := hmr.call hb2; clear hmr))
            go_ret2
            exact ⟨⟨_, by rw [HX.out]; rfl, by rw [HX.out]; exact World.ownsRow_nil _ _ _ _⟩, hm2.below⟩
        · rw [if_neg (fun h => hE0 h.1)] at hx
          rw [addE_two hE0] at CA
          have HX := Lib.hid hx
          clear hx hE0
          go_wp2_with (first
            | (refine wpList_run rfl (exec_indexAddr_sl rfl HE.out rfl rfl rfl hlt) ?_)
            | (refine wpList_run rfl (exec_loadaddr rfl rfl one3 hA) ?_)
            | (go_at_call 38; have _t := hmr; refine (CA.out _).mono ?_; rintro e w2 ⟨rfl, hb2⟩; have hm2 := hmr.call hb2; clear hmr))
          go_ret2
          exact ⟨⟨_, by rw [HX.out]; rfl, by rw [HX.out]; exact World.ownsRow_nil _ _ _ _⟩, hm2.below⟩
      by_cases hs1 : s = 1
      · have hs := hs1
        subst hs
        rw [if_pos (by omega)] at hx
        have CA : Hid (∀ w, Calls Try.prog 38 #[.int .i64 run, .int .i64 many, .int .i64 1] w (PairPost w (addV run many 1) (addE run many 1))) := fun w => add_any run many 1 w
        have hV0 := addV_pos run many 1
        generalize addV run many 1 = V at *
        by_cases hE0 : addE run many 1 = 0
        · rw [hE0] at CA hx
          by_cases hfit : V ≤ most - out.length
          · rw [if_pos ⟨rfl, hfit⟩] at hx
            have HX := Lib.hid hx
            clear hx hE0
            have f1 : ¬ most - out.length < V := by omega
            have f2 : decide (most - out.length < V) = false := decide_eq_false f1
            go_wp2_with (first
              | (refine wpList_run rfl (exec_indexAddr_sl rfl HE.out rfl rfl rfl hlt) ?_)
              | (refine wpList_run rfl (exec_loadaddr rfl rfl one3 hA) ?_)
              | (go_at_call 38; have _t := hmr; refine (CA.out _).mono ?_; rintro e w2 ⟨rfl, hb2⟩; have hm2 := hmr.call hb2; clear hmr))
            go_roundw
            case rel => exact ⟨k + 1, many + 1, V, out, ao, co, by omega, rfl, rfl, by go_num, by go_num, by omega, hV0, by omega, hom, HX.out, hm2⟩
            case measure => simp [intOf]; omega
          · rw [if_neg (fun h => hfit h.2)] at hx
            have HX := Lib.hid hx
            clear hx hE0
            have f1 : most - out.length < V := by omega
            have f2 : decide (most - out.length < V) = true := decide_eq_true f1
            go_wp2_with (first
              | (refine wpList_run rfl (exec_indexAddr_sl rfl HE.out rfl rfl rfl hlt) ?_)
              | (refine wpList_run rfl (exec_loadaddr rfl rfl one3 hA) ?_)
              | (go_at_call 38; have _t := hmr; refine (CA.out _).mono ?_; rintro e w2 ⟨rfl, hb2⟩; have hm2 := hmr.call hb2; clear hmr))
            go_ret2
            exact ⟨⟨_, by rw [HX.out]; rfl, by rw [HX.out]; exact World.ownsRow_nil _ _ _ _⟩, hm2.below⟩
        · rw [if_neg (fun h => hE0 h.1)] at hx
          rw [addE_two hE0] at CA
          have HX := Lib.hid hx
          clear hx hE0
          go_wp2_with (first
            | (refine wpList_run rfl (exec_indexAddr_sl rfl HE.out rfl rfl rfl hlt) ?_)
            | (refine wpList_run rfl (exec_loadaddr rfl rfl one3 hA) ?_)
            | (go_at_call 38; have _t := hmr; refine (CA.out _).mono ?_; rintro e w2 ⟨rfl, hb2⟩; have hm2 := hmr.call hb2; clear hmr))
          go_ret2
          exact ⟨⟨_, by rw [HX.out]; rfl, by rw [HX.out]; exact World.ownsRow_nil _ _ _ _⟩, hm2.below⟩
      rw [if_neg (fun h => h.elim hs hs1)] at hx
      have d1 : (s == 0) = false := by simpa using hs
      have d2 : (s == 1) = false := by simpa using hs1
      have d3 : decide (s = 0) = false := decide_eq_false hs
      have d4 : decide (s = 1) = false := decide_eq_false hs1
      by_cases hlo2 : s < 0
      · rw [if_neg (by omega)] at hx
        have HX := Lib.hid hx
        clear hx
        go_wp2_with (first
          | (refine wpList_run rfl (exec_indexAddr_sl rfl HE.out rfl rfl rfl hlt) ?_)
          | (refine wpList_run rfl (exec_loadaddr rfl rfl one3 hA) ?_))
        go_ret2
        exact ⟨⟨_, by rw [HX.out]; rfl, by rw [HX.out]; exact World.ownsRow_nil _ _ _ _⟩, hmr.below⟩
      by_cases hhi2 : 257 ≤ s
      · rw [if_neg (by omega)] at hx
        have HX := Lib.hid hx
        clear hx
        go_wp2_with (first
          | (refine wpList_run rfl (exec_indexAddr_sl rfl HE.out rfl rfl rfl hlt) ?_)
          | (refine wpList_run rfl (exec_loadaddr rfl rfl one3 hA) ?_))
        go_ret2
        exact ⟨⟨_, by rw [HX.out]; rfl, by rw [HX.out]; exact World.ownsRow_nil _ _ _ _⟩, hmr.below⟩
      have f0 : ¬ 257 ≤ s := hhi2
      by_cases hful : run < most - out.length
      · rw [if_pos ⟨by omega, by omega, hful⟩] at hx
        have HX := Lib.hid hx
        clear hx
        obtain ⟨rn, rfl⟩ := Int.eq_ofNat_of_zero_le hr0
        have f1 : ¬ most - out.length ≤ (rn : Int) := by omega
        have f2 : decide (most - out.length ≤ (rn : Int)) = false := decide_eq_false f1
        have hw : IntKind.i64.wrap (s - 1) = s - 1 := IntWalk.i64_in _ (by omega)
        have hle : (vs .i64 out).length + rn ≤ 100000 := by rw [length_vs]; omega
        have hle2 : (vs .i64 out ++ List.replicate rn (Value.int .i64 0)).length ≤ 100000 := by rw [List.length_append, List.length_replicate]; exact hle
        go_wp2_with (first
          | (refine wpList_run rfl (exec_indexAddr_sl rfl HE.out rfl rfl rfl hlt) ?_)
          | (refine wpList_run rfl (exec_loadaddr rfl rfl one3 hA) ?_)
          | (refine wpList_zeros_o 0 hmr rfl rfl HE.out Try.underlying3 rfl rfl rn rfl rfl (by omega) (by omega) ?_; intro ad2 c2 w2 hm2; simp only [List.set] at hm2; clear hmr)
          | (refine wpList_build1_o (v := .int .i64 (s - 1)) hm2 rfl rfl HE.out rfl rfl ?_; intro w3 g3 hm3; clear hm2)
          | (refine wpList_append_o 0 hm3 rfl rfl HE.out rfl rfl rfl (Src.one (hm3.row 0 rfl)) (one_list _ rfl) (by simp only [List.length_cons, List.length_nil]; omega) (by simp only [List.length_cons, List.length_nil]; omega) ?_; intro ad4 c4 w4 hm4; simp only [List.set] at hm4; clear hm3))
        go_roundw
        case rel =>
          have e : vs .i64 out ++ List.replicate rn (Value.int .i64 0) ++ [.int .i64 (s - 1)] = vs .i64 (out ++ List.replicate (rn : Int).toNat 0 ++ [s - 1]) := by simp [vs]
          have e2 : (vs .i64 out).length + rn + 1 = (out ++ List.replicate (rn : Int).toNat 0 ++ [s - 1]).length := by simp only [length_vs, List.length_append, List.length_replicate, List.length_cons, List.length_nil, Int.toNat_natCast]
          have e3 : (vs .i64 out ++ List.replicate rn (Value.int .i64 0)).length + [Value.int .i64 (s - 1)].length = (out ++ List.replicate (rn : Int).toNat 0 ++ [s - 1]).length := by simp only [length_vs, List.length_append, List.length_replicate, List.length_cons, List.length_nil, Int.toNat_natCast]
          rw [e] at hm4
          refine ⟨k + 1, 0, 0, out ++ List.replicate (rn : Int).toNat 0 ++ [s - 1], ad4, c4, by omega, by rw [← e2], rfl, rfl, by go_num, by omega, by omega, ?_, .inr ?_, HX.out, ?_⟩
          · simp only [List.length_append, List.length_replicate, List.length_cons, List.length_nil, Int.toNat_natCast]; omega
          · simp only [List.length_append, List.length_replicate, List.length_cons, List.length_nil, Int.toNat_natCast]; omega
          · rw [← e3]; exact hm4.dropRow
        case measure => simp [intOf]; omega
      · rw [if_neg (by omega)] at hx
        have HX := Lib.hid hx
        clear hx
        have f1 : most - out.length ≤ run := by omega
        have f2 : decide (most - out.length ≤ run) = true := decide_eq_true f1
        go_wp2_with (first
          | (refine wpList_run rfl (exec_indexAddr_sl rfl HE.out rfl rfl rfl hlt) ?_)
          | (refine wpList_run rfl (exec_loadaddr rfl rfl one3 hA) ?_))
        go_ret2
        exact ⟨⟨_, by rw [HX.out]; rfl, by rw [HX.out]; exact World.ownsRow_nil _ _ _ _⟩, hmr.below⟩
    · obtain rfl : k = l.length := by omega
      rw [List.drop_length] at hx
      by_cases hneg : most < 0
      · have HX : Hid (unfoldO most l = ([], 2)) := by show unfoldO most l = _; rw [hx]; exact if_pos hneg
        clear hx
        go_wp2_with fail
        go_ret2
        exact ⟨⟨_, by rw [HX.out]; rfl, by rw [HX.out]; exact World.ownsRow_nil _ _ _ _⟩, hmr.below⟩
      · obtain ⟨rn, rfl⟩ := Int.eq_ofNat_of_zero_le hr0
        have HX : Hid (unfoldO most l = (out ++ List.replicate rn 0, 0)) := by show unfoldO most l = _; rw [hx]; exact if_neg hneg
        clear hx
        have hle : (vs .i64 out).length + rn ≤ 100000 := by rw [length_vs]; omega
        go_wp2_with (first
          | (refine wpList_zeros_o 0 hmr rfl rfl HE.out Try.underlying3 rfl rfl rn rfl rfl (by omega) (by omega) ?_; intro ad2 c2 w2 hm2; simp only [List.set] at hm2; clear hmr))
        go_ret2
        have hg := hm2.get 0 rfl
        rw [zeros_vs, ← vs_append] at hg
        dsimp only at hg
        exact ⟨⟨_, by rw [HX.out]; rfl, by rw [HX.out]; exact own_len0 hg⟩, hm2.below⟩
end Go.Proofs.Ytaccjnekonmkoaa
