/-
  The walk of symenc.Step.
-/
import Derived.Test.YtaccjnekonmkoaaSeB
namespace Go.Proofs.Ytaccjnekonmkoaa
open Go Go.RowKit

/-- What Step makes of the bytes that are still to come: the list, the run, the symbols. -/
def ego : List Int → List Int → Nat → List Int → List Int × Nat × List Int
  | [], l, r, out => (l, r, out)
  | c :: b, l, r, out => if pos l c = 0 then ego b (putL l c) (r + 1) out else ego b (putL l c) 0 (out ++ dg r ++ [pos l c + 1])
theorem ego_step (b : List Int) (k : Nat) (h : k < b.length) (l : List Int) (r : Nat) (out : List Int) : ego (b.drop k) l r out = if pos l (gi b k) = 0 then ego (b.drop (k + 1)) (putL l (gi b k)) (r + 1) out else ego (b.drop (k + 1)) (putL l (gi b k)) 0 (out ++ dg r ++ [pos l (gi b k) + 1]) := by
  rw [drop_cons0 b k h]; rfl
def stepOk (l : List Int) (r : Int) (b : List Int) : Bool := encOk l r && decide ((b.length : Int) ≤ 2147483647 - r)
def stepL (l : List Int) (r : Int) (b : List Int) : List Int := if stepOk l r b then (ego b l r.toNat []).1 else l
def stepR (l : List Int) (r : Int) (b : List Int) : Int := if stepOk l r b then ((ego b l r.toNat []).2.1 : Int) else r
def stepO (l : List Int) (r : Int) (b : List Int) : List Int := if stepOk l r b then (ego b l r.toNat []).2.2 else []
def stepE (l : List Int) (r : Int) (b : List Int) : Int := if stepOk l r b then 0 else 2
def StepPost (w : World) (l : List Int) (r : Int) (out : List Int) (e : Int) (x : Ending) (w' : World) : Prop := (∃ v, x = .returned (.tuple #[.agg (EV l r), v, .int .i64 e]) ∧ w'.ownsRow w.heap.size 3 1 v out.length (vs .i64 out)) ∧ Below w.heap.size w w'
theorem size_EE {l m : List Int} (r s : Int) (hl : l.length = 256) (hm : m.length = 256) : (EV l r).size = (EV m s).size := by rw [size_EV r hl, size_EV s hm]
theorem fit_EV {l m : List Int} (r : Int) (hl : l.length = 256) (hm : m.length = 256) : 0 + (B m).size ≤ (EV l r).size := by rw [size_B, size_EV r hl, hm]; omega
theorem lt_EV {l : List Int} (r : Int) (hl : l.length = 256) : 256 < (EV l r).size := by rw [size_EV r hl]; omega

set_option maxRecDepth 100000 in
set_option maxHeartbeats 1000000 in
theorem estep_bad (l b : List Int) (r : Int) (v : Value) (w : World) (hl : l.length = 256) (hb : Bytes l) (hv : In .u8 w v b) (hbad : encOk l r = false) : Calls Try.prog 46 #[.agg (EV l r), v] w (StepPost w l r [] 2) := by
  obtain ⟨ad, cp, rfl, _⟩ := hv
  have CV : Hid (∀ w, Calls Try.prog 51 #[.agg (EV l r)] w fun e w' => (e = .returned (.bool false)) ∧ Below w.heap.size w w') := Lib.hid (fun w => by rw [← hbad]; exact evalid_any l r w hl hb)
  clear hbad
  go_enter Try.func46, Try.ntmps46
  have hm := Own.nil w
  go_wp2_with (first
    | (refine wpList_box_o hm rfl rfl rfl ?_; intro w1 g hm1; clear hm)
    | (refine wpList_alloc_o hm1 rfl rfl zero57 ?_; intro w2 g2 hm2; clear hm1)
    | (refine wpList_load_all rfl rfl rfl (hm2.row 1 rfl) (aggE _ hl) ?_)
    | (go_at_call 51; have _t := hm2; refine (CV.out _).mono ?_; rintro e w3 ⟨rfl, hb3⟩; have hm3 := hm2.call hb3; clear hm2)
    | (refine wpList_load_all rfl rfl rfl (hm3.row 1 rfl) (aggE _ hl) ?_)
    | (refine wpList_store_o 0 hm3 rfl rfl rfl rfl rfl (aggE _ hl) (size_EE _ _ hl len_zeros) (EV_one _ _) ?_; intro w4 hm4; simp only [List.set] at hm4; clear hm3))
  refine bodyPost_ret (results_agg3 rfl rfl (hm4.row 0 rfl) (aggE _ hl)) rfl ?_
  exact ⟨⟨_, rfl, World.ownsRow_nil _ _ _ _⟩, hm4.below⟩
set_option maxRecDepth 100000 in
set_option maxHeartbeats 1000000 in
theorem estep_long (l b : List Int) (r : Int) (v : Value) (w : World) (hl : l.length = 256) (hb : Bytes l) (hv : In .u8 w v b) (hok : encOk l r = true) (hlong : 2147483647 - r < b.length) : Calls Try.prog 46 #[.agg (EV l r), v] w (StepPost w l r [] 2) := by
  obtain ⟨ad, cp, rfl, _⟩ := hv
  have hr : 0 ≤ r ∧ r ≤ 2147483647 := by
    rw [encOk, Bool.and_eq_true] at hok
    exact of_decide_eq_true hok.2
  have CV : Hid (∀ w, Calls Try.prog 51 #[.agg (EV l r)] w fun e w' => (e = .returned (.bool true)) ∧ Below w.heap.size w w') := Lib.hid (fun w => by rw [← hok]; exact evalid_any l r w hl hb)
  clear hok
  have hw : IntKind.i64.wrap (2147483647 - r) = 2147483647 - r := IntWalk.i64_in _ (by omega)
  have q1 : decide (2147483647 - r < (b.length : Int)) = true := decide_eq_true hlong
  go_enter Try.func46, Try.ntmps46
  have hm := Own.nil w
  go_wp2_with (first
    | (refine wpList_box_o hm rfl rfl rfl ?_; intro w1 g hm1; clear hm)
    | (refine wpList_alloc_o hm1 rfl rfl zero57 ?_; intro w2 g2 hm2; clear hm1)
    | (refine wpList_load_all rfl rfl rfl (hm2.row 1 rfl) (aggE _ hl) ?_)
    | (go_at_call 51; have _t := hm2; refine (CV.out _).mono ?_; rintro e w3 ⟨rfl, hb3⟩; have hm3 := hm2.call hb3; clear hm2)
    | (refine wpList_load_all rfl rfl rfl (hm3.row 1 rfl) (aggE _ hl) ?_)
    | (refine wpList_run rfl (exec_loadcell' rfl rfl (hm3.row 1 rfl) one3 (run_EV _ hl)) ?_)
    | (refine wpList_store_o 0 hm3 rfl rfl rfl rfl rfl (aggE _ hl) (size_EE _ _ hl len_zeros) (EV_one _ _) ?_; intro w4 hm4; simp only [List.set] at hm4; clear hm3))
  refine bodyPost_ret (results_agg3 rfl rfl (hm4.row 0 rfl) (aggE _ hl)) rfl ?_
  exact ⟨⟨_, rfl, World.ownsRow_nil _ _ _ _⟩, hm4.below⟩
set_option maxRecDepth 100000 in
set_option maxHeartbeats 4000000 in
theorem estep_in (l b : List Int) (r : Nat) (v : Value) (w : World) (hvl : Vl l) (hbb : Bytes b) (hv : In .u8 w v b) (hlen : b.length ≤ 1000) (hr : (b.length : Int) ≤ 2147483647 - r) : Calls Try.prog 46 #[.agg (EV l r), v] w (StepPost w (ego b l r []).1 (ego b l r []).2.1 (ego b l r []).2.2 0) := by
  have hl := hvl.len
  have CV : Hid (∀ w, Calls Try.prog 51 #[.agg (EV l r)] w fun e w' => (e = .returned (.bool true)) ∧ Below w.heap.size w w') := Lib.hid (fun w => by
    have e : encOk l r = true := by
      rw [encOk, (vl_iff hl hvl.bytes).2 hvl, decide_eq_true ⟨by omega, by omega⟩]; rfl
    have h := evalid_any l r w hl hvl.bytes
    rwa [e] at h)
  obtain ⟨ad, cp, rfl, hc⟩ := hv
  obtain ⟨i5, hE5⟩ := el24
  obtain ⟨i3, hE⟩ := el39
  have HE5 := Lib.hid hE5
  have HE := Lib.hid hE
  have HC := Lib.hid hc
  have HBB := Lib.hid hbb
  have HVL := Lib.hid hvl
  clear hc hE hE5 hvl hbb
  have hw : IntKind.i64.wrap (2147483647 - (r : Int)) = 2147483647 - r := IntWalk.i64_in _ (by omega)
  have q0 : ¬ 2147483647 - (r : Int) < (b.length : Int) := by omega
  have q1 : decide (2147483647 - (r : Int) < (b.length : Int)) = false := decide_eq_false q0
  go_enter Try.func46, Try.ntmps46
  have hm := (Own.nil w).addNil 3
  go_wp2_with (first
    | (refine wpList_box_o hm rfl rfl rfl ?_; intro w1 g hm1; clear hm)
    | (refine wpList_alloc_o hm1 rfl rfl zero57 ?_; intro w2 g2 hm2; clear hm1)
    | (refine wpList_load_all rfl rfl rfl (hm2.row 1 rfl) (aggE _ hl) ?_)
    | (go_at_call 51; have _t := hm2; refine (CV.out _).mono ?_; rintro e w3 ⟨rfl, hb3⟩; have hm3 := hm2.call hb3; clear hm2)
    | (refine wpList_run rfl (exec_loadcell' rfl rfl (hm3.row 1 rfl) one3 (run_EV _ hl)) ?_))
  go_loopw [7, 27] (fun o u wr => ∃ (k : Nat) (L : List Int) (s : Nat) (out : List Int) (ao : Option Addr) (co : Nat), k ≤ b.length ∧ u = .int .i64 k ∧ o = .slice ao out.length co ∧ Hid (Vl L) ∧ (s : Int) + (b.length - k) ≤ 2147483647 ∧ out.length ≤ 33 * k ∧ Hid (ego b l r [] = ego (b.drop k) L s out) ∧ Own w wr [(g2, EV zeros 0), (g, EV L s)] [(.slice ao out.length co, 3, vs .i64 out)]) (fun _ u _ => b.length - (intOf u).toNat)
  case atStart => exact ⟨0, l, r, [], none, 0, by omega, rfl, rfl, HVL, by omega, by simp, rfl, hm3⟩
  case round =>
    obtain ⟨k, L, s, out, ao, co, hk, rfl, rfl, HL, hs, hout, HX, hmr⟩ := hrel
    clear hm3
    have hL := HL.out.len
    by_cases hlt : k < b.length
    · obtain ⟨A, rfl, hA0⟩ := HC.out k hlt
      have hA : wr.cell? (A.add k) = some (.int .u8 (gi b k)) := (hmr.below.cell (block_lt_of_cell hA0)).trans hA0
      have hx := HX.out
      rw [ego_step b k hlt] at hx
      have hbk := HBB.out.gi k hlt
      have CP : Hid (∀ w, Calls Try.prog 21 #[.agg (B L), .int .u8 (gi b k)] w fun e w' => (e = .returned (.tuple #[.agg (B (putL L (gi b k))), .int .i64 (pos L (gi b k))])) ∧ Below w.heap.size w w') := Lib.hid (fun w => put_any L _ w hL HL.out.bytes hbk)
      have hp := pos_range HL.out hbk.1 hbk.2
      have HP : Hid (Vl (putL L (gi b k))) := HL.out.putL _
      clear hA0 HX hbk
      generalize gi b k = c at *
      generalize pos L c = p at *
      generalize putL L c = M at *
      have hM := HP.out.len
      by_cases hp0 : p = 0
      · subst hp0
        rw [if_pos rfl] at hx
        have HX := Lib.hid hx
        have hq : IntKind.i64.wrap ((s : Int) + 1) = ((s + 1 : Nat) : Int) := by rw [IntWalk.i64_in _ (by omega)]; omega
        clear hx hp
        go_wp2_with (first
          | (refine wpList_run rfl (exec_indexAddr_sl rfl HE5.out rfl rfl rfl hlt) ?_)
          | (refine wpList_run rfl (exec_loadaddr rfl rfl one5 hA) ?_)
          | (refine wpList_load_part rfl rfl rfl (hmr.row 1 rfl) (aggB _ hL) (extract_EV _ hL) (fit_EV _ hL hL) ?_)
          | (go_at_call 21; have _t := hmr; refine (CP.out _).mono ?_; rintro e w4 ⟨rfl, hb4⟩; have hm4 := hmr.call hb4; clear hmr)
          | (refine wpList_store_part_o 1 hm4 rfl rfl rfl rfl rfl (aggB _ hM) (fit_EV _ hL hM) (B_one _) (splice_EV _ hL hM) ?_; intro w5 hm5; simp only [List.set] at hm5; clear hm4)
          | (refine wpList_run rfl (exec_loadcell' rfl rfl (hm5.row 1 rfl) one3 (run_EV _ hM)) ?_)
          | (refine wpList_storecell_o (v := .int .i64 ((s + 1 : Nat) : Int)) 1 hm5 rfl rfl rfl rfl rfl one3 (lt_EV _ hM) rfl rfl (set_EV _ _ hM) ?_; intro w6 hm6; simp only [List.set] at hm6; clear hm5))
        go_roundw
        case rel => exact ⟨k + 1, M, s + 1, out, ao, co, by omega, by go_num, rfl, HP, by omega, by omega, HX, hm6⟩
        case measure => simp [intOf]; omega
      · rw [if_neg hp0] at hx
        have HX := Lib.hid hx
        have d1 : (p == 0) = false := by simpa using hp0
        have d2 : decide (p = 0) = false := decide_eq_false hp0
        have hq : IntKind.i64.wrap (p + 1) = p + 1 := IntWalk.i64_in _ (by omega)
        have CD : Hid (∀ w, Calls Try.prog 34 #[.int .i64 (s : Int)] w (ListPost w (dg s) 0)) := Lib.hid (fun w => by
          have h := digits_any s w
          rw [dgO, dgE, if_pos ⟨by omega, by omega⟩, if_pos ⟨by omega, by omega⟩, Int.toNat_natCast] at h
          exact h)
        have hd := len_dg 31 s (by omega)
        clear hx hp
        generalize dg s = D at *
        go_wp2_with (first
          | (refine wpList_run rfl (exec_indexAddr_sl rfl HE5.out rfl rfl rfl hlt) ?_)
          | (refine wpList_run rfl (exec_loadaddr rfl rfl one5 hA) ?_)
          | (refine wpList_load_part rfl rfl rfl (hmr.row 1 rfl) (aggB _ hL) (extract_EV _ hL) (fit_EV _ hL hL) ?_)
          | (go_at_call 21; have _t := hmr; refine (CP.out _).mono ?_; rintro e w4 ⟨rfl, hb4⟩; have hm4 := hmr.call hb4; clear hmr)
          | (refine wpList_store_part_o 1 hm4 rfl rfl rfl rfl rfl (aggB _ hM) (fit_EV _ hL hM) (B_one _) (splice_EV _ hL hM) ?_; intro w5 hm5; simp only [List.set] at hm5; clear hm4)
          | (refine wpList_run rfl (exec_loadcell' rfl rfl (hm5.row 1 rfl) one3 (run_EV _ hM)) ?_)
          | (go_at_call 34; have _t := hm5; refine (CD.out _).mono ?_; rintro e w6 ⟨⟨r6, rfl, ho6⟩, hb6⟩; obtain ⟨a6, c6, rfl⟩ := owns_shape0 ho6; have hm6 := hm5.callSl hb6 (by rw [length_vs]; exact ho6); clear hm5 ho6)
          | (refine wpList_append_o 1 hm6 rfl rfl HE.out rfl rfl rfl (Src.of_owned (hm6.get 0 rfl)) (vs_one _ _) (by simp only [length_vs]; omega) (by simp only [length_vs]; omega) ?_; intro ad7 c7 w7 hm7; simp only [List.set] at hm7; rw [← vs_append] at hm7; clear hm6)
          | (refine wpList_build1_o (v := .int .i64 (p + 1)) hm7 rfl rfl HE.out rfl rfl ?_; intro w8 g8 hm8; clear hm7)
          | (refine wpList_append_o 1 hm8 rfl rfl HE.out rfl rfl rfl (Src.one (hm8.row 0 rfl)) (one_list _ rfl) (by simp only [length_vs, List.length_append, List.length_cons, List.length_nil]; omega) (by simp only [length_vs, List.length_append, List.length_cons, List.length_nil]; omega) ?_; intro ad9 c9 w9 hm9; simp only [List.set] at hm9; clear hm8)
          | (refine wpList_storecell_o (v := .int .i64 0) 2 hm9 rfl rfl rfl rfl rfl one3 (lt_EV _ hM) rfl rfl (set_EV _ _ hM) ?_; intro w10 hm10; simp only [List.set] at hm10; clear hm9))
        go_roundw
        case rel =>
          have e : vs .i64 (out ++ D) ++ [Value.int .i64 (p + 1)] = vs .i64 (out ++ D ++ [p + 1]) := by simp [vs]
          have e3 : (vs .i64 (out ++ D)).length + [Value.int .i64 (p + 1)].length = (out ++ D ++ [p + 1]).length := by simp [length_vs]; omega
          rw [e, e3] at hm10
          refine ⟨k + 1, M, 0, out ++ D ++ [p + 1], ad9, c9, by omega, by go_num, ?_, HP, by omega, by simp only [List.length_append, List.length_cons, List.length_nil]; omega, HX, hm10.dropRow.dropSl⟩
          rw [← e3]; rfl
        case measure => simp [intOf]; omega
    · obtain rfl : k = b.length := by omega
      have HX2 : Hid (ego b l r [] = (L, s, out)) := by show _ = _; rw [HX.out, List.drop_length]; rfl
      clear HX
      go_wp2_with (first
        | (refine wpList_load_all rfl rfl rfl (hmr.row 1 rfl) (aggE _ hL) ?_)
        | (refine wpList_store_o 0 hmr rfl rfl rfl rfl rfl (aggE _ hL) (size_EE _ _ hL len_zeros) (EV_one _ _) ?_; intro w4 hm4; simp only [List.set] at hm4; clear hmr))
      refine bodyPost_ret (results_agg3 rfl rfl (hm4.row 0 rfl) (aggE _ hL)) rfl ?_
      rw [HX2.out]
      have hg := hm4.get 0 rfl
      dsimp only at hg
      exact ⟨⟨_, rfl, own_len0 hg⟩, hm4.below⟩
theorem estep_any (l b : List Int) (r : Int) (v : Value) (w : World) (hl : l.length = 256) (hb : Bytes l) (hbb : Bytes b) (hv : In .u8 w v b) (hlen : b.length ≤ 1000) : Calls Try.prog 46 #[.agg (EV l r), v] w (StepPost w (stepL l r b) (stepR l r b) (stepO l r b) (stepE l r b)) := by
  rw [stepL, stepR, stepO, stepE]
  cases ho : encOk l r with
  | false =>
    have e : stepOk l r b = false := by rw [stepOk, ho]; rfl
    rw [e]
    exact estep_bad l b r v w hl hb hv ho
  | true =>
    have hh := ho
    rw [encOk, Bool.and_eq_true] at hh
    have hr := of_decide_eq_true hh.2
    have hvl := (vl_iff hl hb).1 hh.1
    by_cases hlong : 2147483647 - r < b.length
    · have e : stepOk l r b = false := by rw [stepOk, decide_eq_false (by omega), Bool.and_false]
      rw [e]
      exact estep_long l b r v w hl hb hv ho hlong
    · have e : stepOk l r b = true := by rw [stepOk, ho, decide_eq_true (by omega)]; rfl
      rw [e]
      obtain ⟨s, rfl⟩ := Int.eq_ofNat_of_zero_le hr.1
      simp only [if_true, Int.toNat_natCast]
      exact estep_in l b s v w hvl hbb hv hlen (by omega)
end Go.Proofs.Ytaccjnekonmkoaa
