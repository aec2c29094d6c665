/-
  The walk of the reference winepressref15.Step.
-/
import Derived.Test.YtaccjnekonmkoaaSeC
namespace Go.Proofs.Ytaccjnekonmkoaa
open Go Go.RowKit

theorem ordB_readl {P : Program} {ops : Array Oper} {Q : Exit → Act → World → Prop} {i j k : Nat} {r1 r2 r : List (Nat × Bool)} {S : World → Prop} {a : Act} {w : World} {o : Oper} {v : Value} (ho : ops.toList[k]? = some o) (hw : Region.wanted o (yielded ops a.tmps) = true)
    (hrun : ∀ W, S W → (execOp a.eval o).run P W = .ok (.value v) W) (h : wpOrdB P ops Q i r1 j r2 r S (a.put o.dst v) w) : wpOrdB P ops Q i r1 j r2 ((k, true) :: r) S a w :=
  ordB_read (by rw [← Array.getElem?_toList]; exact ho) hw hrun h
set_option maxRecDepth 100000 in
set_option maxHeartbeats 1000000 in
theorem restep_bad (l b : List Int) (r : Int) (v : Value) (w : World) (hl : l.length = 256) (hb : Bytes l) (hv : In .u8 w v b) (hbad : encOk l r = false) : Calls Try.prog 47 #[.agg (EV l r), v] w (StepPost w l r [] 2) := by
  obtain ⟨ad, cp, rfl, _⟩ := hv
  have CV : Hid (∀ w, Calls Try.prog 52 #[.agg (EV l r)] w fun e w' => (e = .returned (.bool false)) ∧ Below w.heap.size w w') := Lib.hid (fun w => by rw [← hbad]; exact revalid_any l r w hl hb)
  clear hbad
  go_enter Try.func47, Try.ntmps47
  have hm := Own.nil w
  go_wp2_with (first
    | (refine wpList_box_o hm rfl rfl rfl ?_; intro w1 g hm1; clear hm)
    | (refine wpList_alloc_o hm1 rfl rfl zero57 ?_; intro w2 g2 hm2; clear hm1)
    | (refine wpList_load_all rfl rfl rfl (hm2.row 1 rfl) (aggE _ hl) ?_)
    | (go_at_call 52; have _t := hm2; refine (CV.out _).mono ?_; rintro e w3 ⟨rfl, hb3⟩; have hm3 := hm2.call hb3; clear hm2)
    | (refine wpList_load_all rfl rfl rfl (hm3.row 1 rfl) (aggE _ hl) ?_)
    | (refine wpList_store_o 0 hm3 rfl rfl rfl rfl rfl (aggE _ hl) (size_EE _ _ hl len_zeros) (EV_one _ _) ?_; intro w4 hm4; simp only [List.set] at hm4; clear hm3))
  refine bodyPost_ret (results_agg3 rfl rfl (hm4.row 0 rfl) (aggE _ hl)) rfl ?_
  exact ⟨⟨_, rfl, World.ownsRow_nil _ _ _ _⟩, hm4.below⟩
set_option maxRecDepth 100000 in
set_option maxHeartbeats 1000000 in
theorem restep_long (l b : List Int) (r : Int) (v : Value) (w : World) (hl : l.length = 256) (hb : Bytes l) (hv : In .u8 w v b) (hok : encOk l r = true) (hlong : 2147483647 - r < b.length) : Calls Try.prog 47 #[.agg (EV l r), v] w (StepPost w l r [] 2) := by
  obtain ⟨ad, cp, rfl, _⟩ := hv
  have hr : 0 ≤ r ∧ r ≤ 2147483647 := by
    rw [encOk, Bool.and_eq_true] at hok
    exact of_decide_eq_true hok.2
  have CV : Hid (∀ w, Calls Try.prog 52 #[.agg (EV l r)] w fun e w' => (e = .returned (.bool true)) ∧ Below w.heap.size w w') := Lib.hid (fun w => by rw [← hok]; exact revalid_any l r w hl hb)
  clear hok
  have hw : IntKind.i64.wrap (2147483647 - r) = 2147483647 - r := IntWalk.i64_in _ (by omega)
  have q1 : decide (2147483647 - r < (b.length : Int)) = true := decide_eq_true hlong
  go_enter Try.func47, Try.ntmps47
  have hm := Own.nil w
  go_wp2_with (first
    | (refine wpList_box_o hm rfl rfl rfl ?_; intro w1 g hm1; clear hm)
    | (refine wpList_alloc_o hm1 rfl rfl zero57 ?_; intro w2 g2 hm2; clear hm1)
    | (refine wpList_load_all rfl rfl rfl (hm2.row 1 rfl) (aggE _ hl) ?_)
    | (go_at_call 52; have _t := hm2; refine (CV.out _).mono ?_; rintro e w3 ⟨rfl, hb3⟩; have hm3 := hm2.call hb3; clear hm2)
    | (refine wpList_load_all rfl rfl rfl (hm3.row 1 rfl) (aggE _ hl) ?_)
    | (refine wpList_run rfl (exec_loadcell' rfl rfl (hm3.row 1 rfl) one3 (run_EV _ hl)) ?_)
    | (refine wpList_store_o 0 hm3 rfl rfl rfl rfl rfl (aggE _ hl) (size_EE _ _ hl len_zeros) (EV_one _ _) ?_; intro w4 hm4; simp only [List.set] at hm4; clear hm3))
  refine bodyPost_ret (results_agg3 rfl rfl (hm4.row 0 rfl) (aggE _ hl)) rfl ?_
  exact ⟨⟨_, rfl, World.ownsRow_nil _ _ _ _⟩, hm4.below⟩
set_option maxRecDepth 100000 in
set_option maxHeartbeats 4000000 in
theorem restep_in (l b : List Int) (r : Nat) (v : Value) (w : World) (hvl : Vl l) (hbb : Bytes b) (hv : In .u8 w v b) (hlen : b.length ≤ 1000) (hr : (b.length : Int) ≤ 2147483647 - r) : Calls Try.prog 47 #[.agg (EV l r), v] w (StepPost w (ego b l r []).1 (ego b l r []).2.1 (ego b l r []).2.2 0) := by
  have hl := hvl.len
  have CV : Hid (∀ w, Calls Try.prog 52 #[.agg (EV l r)] w fun e w' => (e = .returned (.bool true)) ∧ Below w.heap.size w w') := Lib.hid (fun w => by
    have e : encOk l r = true := by
      rw [encOk, (vl_iff hl hvl.bytes).2 hvl, decide_eq_true ⟨by omega, by omega⟩]; rfl
    have h := revalid_any l r w hl hvl.bytes
    rwa [e] at h)
  obtain ⟨ad, cp, rfl, hc⟩ := hv
  obtain ⟨i5, hE5⟩ := el24
  obtain ⟨i3, hE⟩ := el39
  have HE5 := Lib.hid hE5
  have HE := Lib.hid hE
  have HC := Lib.hid hc
  have HBB := Lib.hid hbb
  have HVL := Lib.hid hvl
  clear hc hE hE5 hvl hbb
  have hw : IntKind.i64.wrap (2147483647 - (r : Int)) = 2147483647 - r := IntWalk.i64_in _ (by omega)
  have q0 : ¬ 2147483647 - (r : Int) < (b.length : Int) := by omega
  have q1 : decide (2147483647 - (r : Int) < (b.length : Int)) = false := decide_eq_false q0
  go_enter Try.func47, Try.ntmps47
  have hm := (Own.nil w).addNil 3
  go_wp2_with (first
    | (refine wpList_box_o hm rfl rfl rfl ?_; intro w1 g hm1; clear hm)
    | (refine wpList_alloc_o hm1 rfl rfl zero57 ?_; intro w2 g2 hm2; clear hm1)
    | (refine wpList_load_all rfl rfl rfl (hm2.row 1 rfl) (aggE _ hl) ?_)
    | (go_at_call 52; have _t := hm2; refine (CV.out _).mono ?_; rintro e w3 ⟨rfl, hb3⟩; have hm3 := hm2.call hb3; clear hm2)
    | (refine wpList_run rfl (exec_loadcell' rfl rfl (hm3.row 1 rfl) one3 (run_EV _ hl)) ?_))
  go_loopw [7, 8] (fun o u wr => ∃ (k : Nat) (L : List Int) (s : Nat) (out : List Int) (ao : Option Addr) (co : Nat), k ≤ b.length ∧ u = .int .i64 k ∧ o = .slice ao out.length co ∧ Hid (Vl L) ∧ (s : Int) + (b.length - k) ≤ 2147483647 ∧ out.length ≤ 33 * k ∧ Hid (ego b l r [] = ego (b.drop k) L s out) ∧ Own w wr [(g2, EV zeros 0), (g, EV L s)] [(.slice ao out.length co, 3, vs .i64 out)]) (fun _ u _ => b.length - (intOf u).toNat)
  case atStart => exact ⟨0, l, r, [], none, 0, by omega, rfl, rfl, HVL, by omega, by simp, rfl, hm3⟩
  case round =>
    obtain ⟨k, L, s, out, ao, co, hk, rfl, rfl, HL, hs, hout, HX, hmr⟩ := hrel
    clear hm3
    have hL := HL.out.len
    by_cases hlt : k < b.length
    · obtain ⟨A, rfl, hA0⟩ := HC.out k hlt
      have HA : Hid (∀ W, Below w.heap.size w W → W.cell? (A.add k) = some (.int .u8 (gi b k))) := Lib.hid (fun W hW => (hW.cell (block_lt_of_cell hA0)).trans hA0)
      have hx := HX.out
      rw [ego_step b k hlt] at hx
      have hbk := HBB.out.gi k hlt
      have CP : Hid (∀ w, Calls Try.prog 22 #[.agg (B L), .int .u8 (gi b k)] w fun e w' => (e = .returned (.tuple #[.agg (B (putL L (gi b k))), .int .i64 (pos L (gi b k))])) ∧ Below w.heap.size w w') := Lib.hid (fun w => rput_any L _ w hL)
      have hp := pos_range HL.out hbk.1 hbk.2
      have HP : Hid (Vl (putL L (gi b k))) := HL.out.putL _
      clear hA0 HX hbk
      generalize gi b k = c at *
      generalize pos L c = p at *
      generalize putL L c = M at *
      have hM := HP.out.len
      by_cases hp0 : p = 0
      · subst hp0
        rw [if_pos rfl] at hx
        have HX := Lib.hid hx
        have hq : IntKind.i64.wrap ((s : Int) + 1) = ((s + 1 : Nat) : Int) := by rw [IntWalk.i64_in _ (by omega)]; omega
        clear hx hp
        go_wp2_with fail
        refine wp_region_ordB [(0, true), (1, true), (2, true), (3, true), (4, true), (5, true)] 6 [(7, true), (8, true), (9, true), (10, false), (11, false), (12, true)] 10 [(6, false), (7, true), (8, true), (9, true), (11, false), (12, true)]
          (fun W => Below w.heap.size w W ∧ RowIs W g (EV L s)) rfl (by kernel_rfl) rfl rfl (by kernel_rfl) (fun _ _ d _ _ h => by cases d <;> exact h) ⟨(hmr.drawn (wr.drawn + 1)).below, (hmr.drawn (wr.drawn + 1)).row 1 rfl⟩ ?_
        have hm8 := hmr.drawn (wr.drawn + 1)
        generalize ({ wr with drawn := wr.drawn + 1 } : World) = w8 at hm8 ⊢
        refine ordB_readl rfl rfl (fun W hW => by go_simp; rfl) ?_
        simp only [Act.put, List.setIfInBounds_toArray, List.set_cons_zero, List.set_cons_succ]
        refine ordB_readl rfl rfl (fun W hW => exec_load_part rfl rfl hW.2 (aggB _ hL) (extract_EV _ hL) (fit_EV _ hL hL)) ?_
        simp only [Act.put, List.setIfInBounds_toArray, List.set_cons_zero, List.set_cons_succ]
        refine ordB_readl rfl rfl (fun W hW => by go_simp; rfl) ?_
        simp only [Act.put, List.setIfInBounds_toArray, List.set_cons_zero, List.set_cons_succ]
        refine ordB_readl rfl rfl (fun W hW => by go_simp; rfl) ?_
        simp only [Act.put, List.setIfInBounds_toArray, List.set_cons_zero, List.set_cons_succ]
        refine ordB_readl rfl rfl (fun W hW => exec_indexAddr_sl rfl HE5.out rfl rfl rfl hlt) ?_
        simp only [Act.put, List.setIfInBounds_toArray, List.set_cons_zero, List.set_cons_succ]
        refine ordB_readl rfl rfl (fun W hW => exec_loadaddr rfl rfl one5 (HA.out W hW.1)) ?_
        simp only [Act.put, List.setIfInBounds_toArray, List.set_cons_zero, List.set_cons_succ]
        refine ordB_split ?_ ?_
        case' refine_1 =>
            refine ord_dol rfl rfl (fun K hK => ?_)
            go_simp
            refine (CP.out _).mono ?_
            rintro e w9 ⟨rfl, hb9⟩
            have hm9 := hm8.call hb9
            refine hK _ _ ⟨_, fun _ h => h, ⟨hm9.below, hm9.row 1 rfl⟩, ?_⟩
            clear hK K
            try simp only [Act.put, List.setIfInBounds_toArray, List.set_cons_zero, List.set_cons_succ]
            refine ord_readl rfl rfl (fun W hW => by go_simp; rfl) ?_
            simp only [Act.put, List.setIfInBounds_toArray, List.set_cons_zero, List.set_cons_succ]
            refine ord_readl rfl rfl (fun W hW => by go_simp; rfl) ?_
            simp only [Act.put, List.setIfInBounds_toArray, List.set_cons_zero, List.set_cons_succ]
            refine ord_readl rfl rfl (fun W hW => by go_simp; rfl) ?_
            simp only [Act.put, List.setIfInBounds_toArray, List.set_cons_zero, List.set_cons_succ]
            refine ord_alloc_o hm9 rfl rfl rfl zero23 (fun w' g h => ⟨h.below, h.row 2 rfl⟩) (fun w10 g10 hm10 => ?_)
            simp only [Act.put, List.setIfInBounds_toArray]
            refine ord_store_o 0 hm10 rfl rfl rfl rfl rfl rfl (aggB _ hM) (size_BB _ _ hM len_zeros) (B_one _) (fun w' h => ⟨h.below, h.row 2 rfl⟩) (fun w11 hm11 => ?_)
            simp only [Act.put]
            simp only [List.set] at hm11
            refine ord_readl rfl rfl (fun W hW => by go_simp; rfl) ?_
            simp only [Act.put]
            refine ord_nil ?_
            go_simp
        case' refine_2 =>
            refine ord_alloc_o hm8 rfl rfl rfl zero23 (fun w' g h => ⟨h.below, h.row 2 rfl⟩) (fun w10 g10 hm10 => ?_)
            simp only [Act.put, List.setIfInBounds_toArray]
            refine ord_dol rfl rfl (fun K hK => ?_)
            go_simp
            refine (CP.out _).mono ?_
            rintro e w9 ⟨rfl, hb9⟩
            have hm9 := hm10.call hb9
            refine hK _ _ ⟨_, fun _ h => h, ⟨hm9.below, hm9.row 2 rfl⟩, ?_⟩
            clear hK K
            try simp only [Act.put, List.setIfInBounds_toArray, List.set_cons_zero, List.set_cons_succ]
            refine ord_readl rfl rfl (fun W hW => by go_simp; rfl) ?_
            simp only [Act.put, List.setIfInBounds_toArray, List.set_cons_zero, List.set_cons_succ]
            refine ord_readl rfl rfl (fun W hW => by go_simp; rfl) ?_
            simp only [Act.put, List.setIfInBounds_toArray, List.set_cons_zero, List.set_cons_succ]
            refine ord_readl rfl rfl (fun W hW => by go_simp; rfl) ?_
            simp only [Act.put, List.setIfInBounds_toArray, List.set_cons_zero, List.set_cons_succ]
            refine ord_store_o 0 hm9 rfl rfl rfl rfl rfl rfl (aggB _ hM) (size_BB _ _ hM len_zeros) (B_one _) (fun w' h => ⟨h.below, h.row 2 rfl⟩) (fun w11 hm11 => ?_)
            simp only [Act.put, List.setIfInBounds_toArray]
            simp only [List.set] at hm11
            refine ord_readl rfl rfl (fun W hW => by go_simp; rfl) ?_
            simp only [Act.put]
            refine ord_nil ?_
            go_simp
        all_goals
          go_wp2_with (first
            | (refine wpList_load_all rfl rfl rfl (hm11.row 0 rfl) (aggB _ hM) ?_)
            | (refine wpList_store_part_o 2 hm11 rfl rfl rfl rfl rfl (aggB _ hM) (fit_EV _ hL hM) (B_one _) (splice_EV _ hL hM) ?_; intro w5 hm5; simp only [List.set] at hm5; clear hm11)
            | (refine wpList_run rfl (exec_loadcell' rfl rfl (hm5.row 2 rfl) one3 (run_EV _ hM)) ?_)
            | (refine wpList_storecell_o (v := .int .i64 ((s + 1 : Nat) : Int)) 2 hm5 rfl rfl rfl rfl rfl one3 (lt_EV _ hM) rfl rfl (set_EV _ _ hM) ?_; intro w6 hm6; simp only [List.set] at hm6; clear hm5))
          go_roundw
          case rel => exact ⟨k + 1, M, s + 1, out, ao, co, by omega, by go_num, rfl, HP, by omega, by omega, HX, hm6.dropRow⟩
          case measure => simp [intOf]; omega
      · rw [if_neg hp0] at hx
        have HX := Lib.hid hx
        have d1 : (p == 0) = false := by simpa using hp0
        have d2 : decide (p = 0) = false := decide_eq_false hp0
        have hq : IntKind.i64.wrap (p + 1) = p + 1 := IntWalk.i64_in _ (by omega)
        have CD : Hid (∀ w, Calls Try.prog 70 #[.int .i64 (s : Int)] w (RunPost w (dg s))) := Lib.hid (fun w => rrun_any s (by omega) w)
        have hd := len_dg 31 s (by omega)
        clear hx hp
        generalize dg s = D at *
        go_wp2_with fail
        refine wp_region_ordB [(0, true), (1, true), (2, true), (3, true), (4, true), (5, true)] 6 [(7, true), (8, true), (9, true), (10, false), (11, false), (12, true)] 10 [(6, false), (7, true), (8, true), (9, true), (11, false), (12, true)]
          (fun W => Below w.heap.size w W ∧ RowIs W g (EV L s)) rfl (by kernel_rfl) rfl rfl (by kernel_rfl) (fun _ _ d _ _ h => by cases d <;> exact h) ⟨(hmr.drawn (wr.drawn + 1)).below, (hmr.drawn (wr.drawn + 1)).row 1 rfl⟩ ?_
        have hm8 := hmr.drawn (wr.drawn + 1)
        generalize ({ wr with drawn := wr.drawn + 1 } : World) = w8 at hm8 ⊢
        refine ordB_readl rfl rfl (fun W hW => by go_simp; rfl) ?_
        simp only [Act.put, List.setIfInBounds_toArray, List.set_cons_zero, List.set_cons_succ]
        refine ordB_readl rfl rfl (fun W hW => exec_load_part rfl rfl hW.2 (aggB _ hL) (extract_EV _ hL) (fit_EV _ hL hL)) ?_
        simp only [Act.put, List.setIfInBounds_toArray, List.set_cons_zero, List.set_cons_succ]
        refine ordB_readl rfl rfl (fun W hW => by go_simp; rfl) ?_
        simp only [Act.put, List.setIfInBounds_toArray, List.set_cons_zero, List.set_cons_succ]
        refine ordB_readl rfl rfl (fun W hW => by go_simp; rfl) ?_
        simp only [Act.put, List.setIfInBounds_toArray, List.set_cons_zero, List.set_cons_succ]
        refine ordB_readl rfl rfl (fun W hW => exec_indexAddr_sl rfl HE5.out rfl rfl rfl hlt) ?_
        simp only [Act.put, List.setIfInBounds_toArray, List.set_cons_zero, List.set_cons_succ]
        refine ordB_readl rfl rfl (fun W hW => exec_loadaddr rfl rfl one5 (HA.out W hW.1)) ?_
        simp only [Act.put, List.setIfInBounds_toArray, List.set_cons_zero, List.set_cons_succ]
        refine ordB_split ?_ ?_
        case' refine_1 =>
            refine ord_dol rfl rfl (fun K hK => ?_)
            go_simp
            refine (CP.out _).mono ?_
            rintro e w9 ⟨rfl, hb9⟩
            have hm9 := hm8.call hb9
            refine hK _ _ ⟨_, fun _ h => h, ⟨hm9.below, hm9.row 1 rfl⟩, ?_⟩
            clear hK K
            try simp only [Act.put, List.setIfInBounds_toArray, List.set_cons_zero, List.set_cons_succ]
            refine ord_readl rfl rfl (fun W hW => by go_simp; rfl) ?_
            simp only [Act.put, List.setIfInBounds_toArray, List.set_cons_zero, List.set_cons_succ]
            refine ord_readl rfl rfl (fun W hW => by go_simp; rfl) ?_
            simp only [Act.put, List.setIfInBounds_toArray, List.set_cons_zero, List.set_cons_succ]
            refine ord_readl rfl rfl (fun W hW => by go_simp; rfl) ?_
            simp only [Act.put, List.setIfInBounds_toArray, List.set_cons_zero, List.set_cons_succ]
            refine ord_alloc_o hm9 rfl rfl rfl zero23 (fun w' g h => ⟨h.below, h.row 2 rfl⟩) (fun w10 g10 hm10 => ?_)
            simp only [Act.put, List.setIfInBounds_toArray]
            refine ord_store_o 0 hm10 rfl rfl rfl rfl rfl rfl (aggB _ hM) (size_BB _ _ hM len_zeros) (B_one _) (fun w' h => ⟨h.below, h.row 2 rfl⟩) (fun w11 hm11 => ?_)
            simp only [Act.put]
            simp only [List.set] at hm11
            refine ord_readl rfl rfl (fun W hW => by go_simp; rfl) ?_
            simp only [Act.put]
            refine ord_nil ?_
            go_simp
        case' refine_2 =>
            refine ord_alloc_o hm8 rfl rfl rfl zero23 (fun w' g h => ⟨h.below, h.row 2 rfl⟩) (fun w10 g10 hm10 => ?_)
            simp only [Act.put, List.setIfInBounds_toArray]
            refine ord_dol rfl rfl (fun K hK => ?_)
            go_simp
            refine (CP.out _).mono ?_
            rintro e w9 ⟨rfl, hb9⟩
            have hm9 := hm10.call hb9
            refine hK _ _ ⟨_, fun _ h => h, ⟨hm9.below, hm9.row 2 rfl⟩, ?_⟩
            clear hK K
            try simp only [Act.put, List.setIfInBounds_toArray, List.set_cons_zero, List.set_cons_succ]
            refine ord_readl rfl rfl (fun W hW => by go_simp; rfl) ?_
            simp only [Act.put, List.setIfInBounds_toArray, List.set_cons_zero, List.set_cons_succ]
            refine ord_readl rfl rfl (fun W hW => by go_simp; rfl) ?_
            simp only [Act.put, List.setIfInBounds_toArray, List.set_cons_zero, List.set_cons_succ]
            refine ord_readl rfl rfl (fun W hW => by go_simp; rfl) ?_
            simp only [Act.put, List.setIfInBounds_toArray, List.set_cons_zero, List.set_cons_succ]
            refine ord_store_o 0 hm9 rfl rfl rfl rfl rfl rfl (aggB _ hM) (size_BB _ _ hM len_zeros) (B_one _) (fun w' h => ⟨h.below, h.row 2 rfl⟩) (fun w11 hm11 => ?_)
            simp only [Act.put, List.setIfInBounds_toArray]
            simp only [List.set] at hm11
            refine ord_readl rfl rfl (fun W hW => by go_simp; rfl) ?_
            simp only [Act.put]
            refine ord_nil ?_
            go_simp
        all_goals
          go_wp2_with (first
            | (refine wpList_load_all rfl rfl rfl (hm11.row 0 rfl) (aggB _ hM) ?_)
            | (refine wpList_store_part_o 2 hm11 rfl rfl rfl rfl rfl (aggB _ hM) (fit_EV _ hL hM) (B_one _) (splice_EV _ hL hM) ?_; intro w5 hm5; simp only [List.set] at hm5; clear hm11)
            | (refine wpList_run rfl (exec_loadcell' rfl rfl (hm5.row 2 rfl) one3 (run_EV _ hM)) ?_)
            | (go_at_call 70; have _t := hm5; refine (CD.out _).mono ?_; rintro e w6 ⟨⟨r6, rfl, ho6⟩, hb6⟩; obtain ⟨a6, c6, rfl⟩ := owns_shape0 ho6; have hm6 := hm5.callSl hb6 (by rw [length_vs]; exact ho6); clear hm5 ho6)
            | (refine wpList_append_o 1 hm6 rfl rfl HE.out rfl rfl rfl (Src.of_owned (hm6.get 0 rfl)) (vs_one _ _) (by simp only [length_vs]; omega) (by simp only [length_vs]; omega) ?_; intro ad7 c7 w7 hm7; simp only [List.set] at hm7; rw [← vs_append] at hm7; clear hm6)
            | (refine wpList_build1_o (v := .int .i64 (p + 1)) hm7 rfl rfl HE.out rfl rfl ?_; intro w8 g8 hm8; clear hm7)
            | (refine wpList_append_o 1 hm8 rfl rfl HE.out rfl rfl rfl (Src.one (hm8.row 0 rfl)) (one_list _ rfl) (by simp only [length_vs, List.length_append, List.length_cons, List.length_nil]; omega) (by simp only [length_vs, List.length_append, List.length_cons, List.length_nil]; omega) ?_; intro ad9 c9 w9 hm9; simp only [List.set] at hm9; clear hm8)
            | (refine wpList_storecell_o (v := .int .i64 0) 3 hm9 rfl rfl rfl rfl rfl one3 (lt_EV _ hM) rfl rfl (set_EV _ _ hM) ?_; intro w10 hm10; simp only [List.set] at hm10; clear hm9))
          go_roundw
          case rel =>
            have e : vs .i64 (out ++ D) ++ [Value.int .i64 (p + 1)] = vs .i64 (out ++ D ++ [p + 1]) := by simp [vs]
            have e3 : (vs .i64 (out ++ D)).length + [Value.int .i64 (p + 1)].length = (out ++ D ++ [p + 1]).length := by simp [length_vs]; omega
            rw [e, e3] at hm10
            refine ⟨k + 1, M, 0, out ++ D ++ [p + 1], ad9, c9, by omega, by go_num, ?_, HP, by omega, by simp only [List.length_append, List.length_cons, List.length_nil]; omega, HX, hm10.dropRow.dropRow.dropSl⟩
            rw [← e3]; rfl
          case measure => simp [intOf]; omega
    · obtain rfl : k = b.length := by omega
      have HX2 : Hid (ego b l r [] = (L, s, out)) := by show _ = _; rw [HX.out, List.drop_length]; rfl
      clear HX
      go_wp2_with (first
        | (refine wpList_load_all rfl rfl rfl (hmr.row 1 rfl) (aggE _ hL) ?_)
        | (refine wpList_store_o 0 hmr rfl rfl rfl rfl rfl (aggE _ hL) (size_EE _ _ hL len_zeros) (EV_one _ _) ?_; intro w4 hm4; simp only [List.set] at hm4; clear hmr))
      refine bodyPost_ret (results_agg3 rfl rfl (hm4.row 0 rfl) (aggE _ hL)) rfl ?_
      rw [HX2.out]
      have hg := hm4.get 0 rfl
      dsimp only at hg
      exact ⟨⟨_, rfl, own_len0 hg⟩, hm4.below⟩
theorem restep_any (l b : List Int) (r : Int) (v : Value) (w : World) (hl : l.length = 256) (hb : Bytes l) (hbb : Bytes b) (hv : In .u8 w v b) (hlen : b.length ≤ 1000) : Calls Try.prog 47 #[.agg (EV l r), v] w (StepPost w (stepL l r b) (stepR l r b) (stepO l r b) (stepE l r b)) := by
  rw [stepL, stepR, stepO, stepE]
  cases ho : encOk l r with
  | false =>
    have e : stepOk l r b = false := by rw [stepOk, ho]; rfl
    rw [e]
    exact restep_bad l b r v w hl hb hv ho
  | true =>
    have hh := ho
    rw [encOk, Bool.and_eq_true] at hh
    have hr := of_decide_eq_true hh.2
    have hvl := (vl_iff hl hb).1 hh.1
    by_cases hlong : 2147483647 - r < b.length
    · have e : stepOk l r b = false := by rw [stepOk, decide_eq_false (by omega), Bool.and_false]
      rw [e]
      exact restep_long l b r v w hl hb hv ho hlong
    · have e : stepOk l r b = true := by rw [stepOk, ho, decide_eq_true (by omega)]; rfl
      rw [e]
      obtain ⟨s, rfl⟩ := Int.eq_ofNat_of_zero_le hr.1
      simp only [if_true, Int.toNat_natCast]
      exact restep_in l b s v w hvl hbb hv hlen (by omega)
end Go.Proofs.Ytaccjnekonmkoaa
