/-
  The walk of the law SymDecNever (winepresslaw16): it returns true.
-/
import Derived.Test.YtaccjnekonmkoaaSdJ
import Derived.Test.YtaccjnekonmkoaaSdP
import Derived.Test.YtaccjnekonmkoaaSdW
namespace Go.Proofs.Ytaccjnekonmkoaa
open Go Go.RowKit

set_option maxRecDepth 100000 in
set_option maxHeartbeats 1000000 in
theorem sdn_w1 (most : Int) (l : List Int) (v : Value) (w : World) (hv : In .i64 w v l) (p1 : most < 1) : Calls Try.prog 18 #[.int .i64 most, v] w fun e w' => e = .returned (.bool true) ∧ Below w.heap.size w w' := by
  obtain ⟨ad, cp, rfl, hc⟩ := hv
  clear hc
  have q1 : decide (most < 1) = true := decide_eq_true p1
  go_enter Try.func18, Try.ntmps18
  have hm := Own.nil w
  go_wp2_with (first
    | (go_at_call 57; have _t := hm; refine (wakes16 _).mono ?_; rintro x w2 ⟨rfl, hb2⟩; have hm2 := hm.call hb2; clear hm))
  go_ret
  exact ⟨rfl, hm2.below⟩
set_option maxRecDepth 100000 in
set_option maxHeartbeats 1000000 in
theorem sdn_w2 (most : Int) (l : List Int) (v : Value) (w : World) (hv : In .i64 w v l) (p1 : ¬ most < 1) (p2 : 3000 < most) : Calls Try.prog 18 #[.int .i64 most, v] w fun e w' => e = .returned (.bool true) ∧ Below w.heap.size w w' := by
  obtain ⟨ad, cp, rfl, hc⟩ := hv
  clear hc
  have q1 : decide (most < 1) = false := decide_eq_false p1
  have q2 : decide (3000 < most) = true := decide_eq_true p2
  go_enter Try.func18, Try.ntmps18
  have hm := Own.nil w
  go_wp2_with (first
    | (go_at_call 57; have _t := hm; refine (wakes16 _).mono ?_; rintro x w2 ⟨rfl, hb2⟩; have hm2 := hm.call hb2; clear hm))
  go_ret
  exact ⟨rfl, hm2.below⟩
set_option maxRecDepth 100000 in
set_option maxHeartbeats 1000000 in
theorem sdn_w3 (most : Int) (l : List Int) (v : Value) (w : World) (hv : In .i64 w v l) (p1 : ¬ most < 1) (p2 : ¬ 3000 < most) (p3 : (300 : Int) < l.length) : Calls Try.prog 18 #[.int .i64 most, v] w fun e w' => e = .returned (.bool true) ∧ Below w.heap.size w w' := by
  obtain ⟨ad, cp, rfl, hc⟩ := hv
  clear hc
  have q1 : decide (most < 1) = false := decide_eq_false p1
  have q2 : decide (3000 < most) = false := decide_eq_false p2
  have q3 : decide ((300 : Int) < l.length) = true := decide_eq_true p3
  go_enter Try.func18, Try.ntmps18
  have hm := Own.nil w
  go_wp2_with (first
    | (go_at_call 57; have _t := hm; refine (wakes16 _).mono ?_; rintro x w2 ⟨rfl, hb2⟩; have hm2 := hm.call hb2; clear hm))
  go_ret
  exact ⟨rfl, hm2.below⟩
set_option maxRecDepth 100000 in
set_option maxHeartbeats 8000000 in
theorem sdn_in (most : Int) (l : List Int) (v : Value) (w : World) (hv : In .i64 w v l) (p1 : ¬ most < 1) (p2 : ¬ 3000 < most) (p3 : ¬ (300 : Int) < l.length) : Calls Try.prog 18 #[.int .i64 most, v] w fun e w' => e = .returned (.bool true) ∧ Below w.heap.size w w' := by
  obtain ⟨ad, cp, rfl, hc⟩ := hv
  obtain ⟨i3, hE⟩ := el39
  have HE := Lib.hid hE
  have HC := Lib.hid hc
  have CN := Lib.hid (dnew_any most)
  have hvN : Vl (dNew most).l := by rw [dNew_in p1 (by omega)]; exact vl_new
  have hlN : (dNew most).left = most := by rw [dNew_in p1 (by omega)]
  clear hE hc
  have q1 : decide (most < 1) = false := decide_eq_false p1
  have q2 : decide (3000 < most) = false := decide_eq_false p2
  have q3 : decide ((300 : Int) < l.length) = false := decide_eq_false p3
  generalize dNew most = N at *
  have hlen := hvN.len
  go_enter Try.func18, Try.ntmps18
  have hm := Own.nil w
  go_wp2_with (first
    | (go_at_call 62; have _t := hm; refine (CN.out _).mono ?_; rintro x w1 ⟨rfl, hb1⟩; have hm1 := hm.call hb1; clear hm)
    | (refine wpList_alloc_o hm1 rfl rfl zero70 ?_; intro w2 g hm2; clear hm1)
    | (refine wpList_store_o 0 hm2 rfl rfl rfl rfl rfl (aggV hlen) (size_VV hlen len_DS0) (V_one _) ?_; intro w3 hm3; simp only [List.set] at hm3; clear hm2))
  go_loopw [6, 7] (fun o u wr => ∃ (k : Nat) (b : DS), k ≤ l.length ∧ u = .int .i64 k ∧ o = .int .i64 (most - b.left) ∧ Vl b.l ∧ 0 ≤ b.left ∧ b.left ≤ most ∧ Own w wr [(g, V b)] []) (fun _ u _ => l.length - (intOf u).toNat)
  case atStart => exact ⟨0, N, by omega, rfl, by rw [hlN, Int.sub_self], hvN, by omega, by omega, hm3⟩
  case round =>
    obtain ⟨k, b, hk, rfl, rfl, hvb, h0b, hlb0, hmr⟩ := hrel
    clear hm3 hvN hlN hlen
    have hlb := hvb.len
    by_cases hlt : k < l.length
    · obtain ⟨A, rfl, hA0⟩ := HC.out k hlt
      have HA : Hid (∀ W, Below w.heap.size w W → W.cell? (A.add k) = some (.int .i64 (gi l k))) := Lib.hid (fun W hW => (hW.cell (block_lt_of_cell hA0)).trans hA0)
      clear hA0
      generalize gi l k = s at *
      have CS := Lib.hid (fun w => dstep_any b s w hlb hvb.bytes)
      have hvo := vl_dStp b s hvb
      have hlf := dStp_left b s
      have hok := @dOk_dStp b s hlb hvb.bytes
      have her := @dStp_err b s
      generalize dStp b s = D at *
      obtain ⟨o, t, f, e⟩ := D
      have hlo := hvo.len
      dsimp only at *
      have HF := Lib.hid hlf
      have HO := Lib.hid hok
      have HR := Lib.hid her
      clear hlf hok her
      go_upto_region 8 with fail
      apply wp_region_TJ (.rd 0 (.rd 1 (.rd 2 (.rd 3 (.rd 4 (.two 5 (.rd 6 (.rd 7 (.rd 8 (.rd 9 (.rd 10 (.one 11 (.one 12 (.rd 13 (.rd 14 (.rd 15 (.done))))))))))) 11 (.one 5 (.rd 6 (.rd 7 (.rd 8 (.rd 9 (.rd 10 (.one 12 (.rd 13 (.rd 14 (.rd 15 (.done))))))))))))))))) (fun W => Below w.heap.size w W ∧ RowIs W g (V b)) (fun (q : Nat) (a : Option Addr) (c : Nat) (W : World) => Own w W [(q, V o), (g, V b)] [] ∧ Src W (.slice a t.length c) (vs .u8 t)) rfl (by kernel_rfl) rfl (by kernel_rfl) ⟨(hmr.drawn (wr.drawn + 1)).below, (hmr.drawn (wr.drawn + 1)).row 0 rfl⟩
      · have hn := hmr.drawn (wr.drawn + 1)
        generalize ({ wr with drawn := wr.drawn + 1 } : World) = wn at hn ⊢
        refine T_read rfl rfl (fun W hW => exec_load_all rfl rfl hW.2 (aggV hlb)) ?_
        try simp only [Act.put, List.setIfInBounds_toArray, List.set_cons_zero, List.set_cons_succ]
        refine T_read rfl rfl (fun W hW => by go_simp; rfl) ?_
        try simp only [Act.put, List.setIfInBounds_toArray, List.set_cons_zero, List.set_cons_succ]
        refine T_read rfl rfl (fun W hW => by go_simp; rfl) ?_
        try simp only [Act.put, List.setIfInBounds_toArray, List.set_cons_zero, List.set_cons_succ]
        refine T_read rfl rfl (fun W hW => exec_indexAddr_sl rfl HE.out rfl rfl rfl hlt) ?_
        try simp only [Act.put, List.setIfInBounds_toArray, List.set_cons_zero, List.set_cons_succ]
        refine T_read rfl rfl (fun W hW => exec_loadaddr rfl rfl one3 (HA.out _ hW.1)) ?_
        try simp only [Act.put, List.setIfInBounds_toArray, List.set_cons_zero, List.set_cons_succ]
        refine T_two ?_ ?_
        · refine oneT_do rfl rfl (fun K hK => ?_)
          go_simp
          refine (CS.out _).mono ?_
          rintro x v1 ⟨⟨x1, rfl, hs1⟩, hb1⟩
          obtain ⟨a1, c1, rfl⟩ := hs1.shape
          have k1 := hn.call hb1
          have HS1 := Lib.hid hs1.src
          clear hn hs1
          refine hK _ _ ⟨_, fun _ h => h, ⟨k1.below, k1.row 0 rfl⟩, ?_⟩
          clear hK K
          refine T_read rfl rfl (fun W hW => by go_simp; rfl) ?_
          try simp only [Act.put, List.setIfInBounds_toArray, List.set_cons_zero, List.set_cons_succ]
          refine T_read rfl rfl (fun W hW => by go_simp; rfl) ?_
          try simp only [Act.put, List.setIfInBounds_toArray, List.set_cons_zero, List.set_cons_succ]
          refine T_read rfl rfl (fun W hW => by go_simp; rfl) ?_
          try simp only [Act.put, List.setIfInBounds_toArray, List.set_cons_zero, List.set_cons_succ]
          refine T_read rfl rfl (fun W hW => by go_simp; rfl) ?_
          try simp only [Act.put, List.setIfInBounds_toArray, List.set_cons_zero, List.set_cons_succ]
          refine T_read rfl rfl (fun W hW => by go_simp; rfl) ?_
          try simp only [Act.put, List.setIfInBounds_toArray, List.set_cons_zero, List.set_cons_succ]
          refine T_one ?_
          refine oneT_alloc_x k1 rfl rfl rfl zero70 ⟨(k1.alloc (V DS0) 70).below, (k1.alloc (V DS0) 70).row 1 rfl⟩ (fun k2 => ?_)
          try simp only [Act.put, List.setIfInBounds_toArray, List.set_cons_zero, List.set_cons_succ]
          refine T_one ?_
          refine oneT_store_x 0 k2 rfl rfl rfl rfl rfl rfl (aggV hlo) (size_VV hlo len_DS0) (V_one _) ⟨(k2.setRow 0 (V o) rfl).below, (k2.setRow 0 (V o) rfl).row 1 rfl⟩ (fun k3 => ?_)
          simp only [List.set] at k3
          try simp only [Act.put]
          refine T_read rfl rfl (fun W hW => by go_simp; rfl) ?_
          try simp only [Act.put, List.setIfInBounds_toArray, List.set_cons_zero, List.set_cons_succ]
          refine T_read rfl rfl (fun W hW => by go_simp; rfl) ?_
          try simp only [Act.put, List.setIfInBounds_toArray, List.set_cons_zero, List.set_cons_succ]
          refine T_read rfl rfl (fun W hW => by go_simp; rfl) ?_
          try simp only [Act.put, List.setIfInBounds_toArray, List.set_cons_zero, List.set_cons_succ]
          refine T_done ?_
          have HF := HS1.out.fresh (V DS0) 70 (V o)
          generalize World.setRow _ _ (V o) = wz at k3 HF ⊢
          generalize v1.heap.size = q at k3 ⊢
          exact ⟨rfl, q, a1, c1, rfl, k3, HF⟩
        · refine oneT_alloc_x hn rfl rfl rfl zero70 ⟨(hn.alloc (V DS0) 70).below, (hn.alloc (V DS0) 70).row 1 rfl⟩ (fun k2 => ?_)
          clear hn
          try simp only [Act.put, List.setIfInBounds_toArray, List.set_cons_zero, List.set_cons_succ]
          refine T_one ?_
          refine oneT_do rfl rfl (fun K hK => ?_)
          go_simp
          refine (CS.out _).mono ?_
          rintro x v1 ⟨⟨x1, rfl, hs1⟩, hb1⟩
          obtain ⟨a1, c1, rfl⟩ := hs1.shape
          have HG := Lib.hid ((k2.row 0 rfl).lt)
          have k3 := k2.call hb1
          have HS1 := Lib.hid hs1
          clear k2 hs1
          refine hK _ _ ⟨_, fun _ h => h, ⟨k3.below, k3.row 1 rfl⟩, ?_⟩
          clear hK K
          refine T_read rfl rfl (fun W hW => by go_simp; rfl) ?_
          try simp only [Act.put, List.setIfInBounds_toArray, List.set_cons_zero, List.set_cons_succ]
          refine T_read rfl rfl (fun W hW => by go_simp; rfl) ?_
          try simp only [Act.put, List.setIfInBounds_toArray, List.set_cons_zero, List.set_cons_succ]
          refine T_read rfl rfl (fun W hW => by go_simp; rfl) ?_
          try simp only [Act.put, List.setIfInBounds_toArray, List.set_cons_zero, List.set_cons_succ]
          refine T_read rfl rfl (fun W hW => by go_simp; rfl) ?_
          try simp only [Act.put, List.setIfInBounds_toArray, List.set_cons_zero, List.set_cons_succ]
          refine T_read rfl rfl (fun W hW => by go_simp; rfl) ?_
          try simp only [Act.put, List.setIfInBounds_toArray, List.set_cons_zero, List.set_cons_succ]
          refine T_one ?_
          refine oneT_store_x 0 k3 rfl rfl rfl rfl rfl rfl (aggV hlo) (size_VV hlo len_DS0) (V_one _) ⟨(k3.setRow 0 (V o) rfl).below, (k3.setRow 0 (V o) rfl).row 1 rfl⟩ (fun k4 => ?_)
          simp only [List.set] at k4
          try simp only [Act.put]
          refine T_read rfl rfl (fun W hW => by go_simp; rfl) ?_
          try simp only [Act.put, List.setIfInBounds_toArray, List.set_cons_zero, List.set_cons_succ]
          refine T_read rfl rfl (fun W hW => by go_simp; rfl) ?_
          try simp only [Act.put, List.setIfInBounds_toArray, List.set_cons_zero, List.set_cons_succ]
          refine T_read rfl rfl (fun W hW => by go_simp; rfl) ?_
          try simp only [Act.put, List.setIfInBounds_toArray, List.set_cons_zero, List.set_cons_succ]
          refine T_done ?_
          have HF := (HS1.out.setRow HG.out (V o)).src
          generalize World.setRow _ _ (V o) = wz at k4 HF ⊢
          generalize wn.heap.size = q at k4 ⊢
          exact ⟨rfl, q, a1, c1, rfl, k4, HF⟩
      clear hmr
      rintro q4 a4 c4 w4 ⟨hm4, hs4⟩
      have HS4 := Lib.hid hs4
      clear hs4
      by_cases he : e = 0
      · obtain ⟨h0o, hso⟩ := HF.out he
        obtain ⟨hk1, hk2, hk3⟩ := HO.out he
        subst he
        have CV : Hid (∀ w, Calls Try.prog 60 #[.agg (V o)] w fun e w' => (e = .returned (.bool true)) ∧ Below w.heap.size w w') := Lib.hid (fun w => by have h := dvalid_any o w hlo hvo.bytes; rwa [hk1] at h)
        have w1 : IntKind.i64.wrap (most - b.left + (t.length : Int)) = most - o.left := by rw [show most - b.left + (t.length : Int) = most - o.left by omega]; exact IntWalk.i64_in _ (by omega)
        have w2 : IntKind.i64.wrap (most - (most - o.left)) = o.left := by rw [show most - (most - o.left) = o.left by omega]; exact IntWalk.i64_in _ (by omega)
        have w3 : IntKind.i64.wrap o.left = o.left := IntWalk.i64_in _ (by omega)
        have q4 : decide (most < most - o.left) = false := decide_eq_false (by omega)
        have q5 : (o.left != o.left) = false := bne_self_eq_false _
        clear hk1 HR HF HO
        cases f with
        | true =>
          have hof := hk3 rfl
          have CZ : Hid (∀ s w, Calls Try.prog 58 #[.agg (V o), .int .i64 s] w (DPost w (o, [], false, 2))) := Lib.hid (fun s w => by have h := dstep_any o s w hlo hvo.bytes; rwa [dStp_fin hk2.symm] at h)
          have w4 : (most - o.left != most) = false := by rw [hof, Int.sub_zero]; exact bne_self_eq_false _
          have GF : (V o)[259]? = some (.bool true) := by rw [getV4 hlo, ← hk2]
          clear hk2 hk3
          go_wp2_with (first
            | (refine wpList_load_all rfl rfl rfl (hm4.row 0 rfl) (aggV hlo) ?_)
            | (go_at_call 60; have _t := hm4; refine (CV.out _).mono ?_; rintro x w5 ⟨rfl, hb5⟩; have hm5 := hm4.call hb5; clear hm4 HS4)
            | (refine wpList_run rfl (exec_loadcell' (off := 256) rfl rfl (hm5.row 0 rfl) one3 (getV1 hlo)) ?_)
            | (refine wpList_run rfl (exec_loadcell' (off := 259) rfl rfl (hm5.row 0 rfl) one4 GF) ?_)
            | (refine wpList_load_all rfl rfl rfl (hm5.row 0 rfl) (aggV hlo) ?_)
            | (go_at_call 58; have _t := hm5; refine (CZ.out _ _).mono ?_; rintro x w6 ⟨⟨r6, rfl, hs6⟩, hb6⟩; obtain ⟨a6, c6, rfl⟩ := hs6.shape; have hm6 := hm5.call hb6; clear hm5 hs6)
            | (refine wpList_alloc_o hm6 rfl rfl zero70 ?_; intro w7 g7 hm7; clear hm6)
            | (refine wpList_store_o 0 hm7 rfl rfl rfl rfl rfl (aggV hlo) (size_VV hlo len_DS0) (V_one _) ?_; intro w8 hm8; simp only [List.set] at hm8; clear hm7)
            | (refine wpList_load_all rfl rfl rfl (hm8.row 1 rfl) (aggV hlo) ?_)
            | (go_at_call 58; have _t := hm8; refine (CZ.out _ _).mono ?_; rintro x w9 ⟨⟨r9, rfl, hs9⟩, hb9⟩; obtain ⟨a9, c9, rfl⟩ := hs9.shape; have hm9 := hm8.call hb9; clear hm8 hs9)
            | (refine wpList_alloc_o hm9 rfl rfl zero70 ?_; intro w10 g10 hm10; clear hm9)
            | (refine wpList_store_o 0 hm10 rfl rfl rfl rfl rfl (aggV hlo) (size_VV hlo len_DS0) (V_one _) ?_; intro w11 hm11; simp only [List.set] at hm11; clear hm10)
            | (go_at_call 57; have _t := hm11; refine (wakes16 _).mono ?_; rintro x w12 ⟨rfl, hb12⟩; have hm12 := hm11.call hb12; clear hm11))
          go_ret
          exact ⟨rfl, hm12.below⟩
        | false =>
          have GF : (V o)[259]? = some (.bool false) := by rw [getV4 hlo, ← hk2]
          clear hk2 hk3
          go_wp2_with (first
            | (refine wpList_load_all rfl rfl rfl (hm4.row 0 rfl) (aggV hlo) ?_)
            | (go_at_call 60; have _t := hm4; refine (CV.out _).mono ?_; rintro x w5 ⟨rfl, hb5⟩; have hm5 := hm4.call hb5; clear hm4 HS4)
            | (refine wpList_run rfl (exec_loadcell' (off := 256) rfl rfl (hm5.row 0 rfl) one3 (getV1 hlo)) ?_)
            | (refine wpList_run rfl (exec_loadcell' (off := 259) rfl rfl (hm5.row 0 rfl) one4 GF) ?_)
            | (refine wpList_load_all rfl rfl rfl (hm5.row 0 rfl) (aggV hlo) ?_)
            | (refine wpList_store_o 1 hm5 rfl rfl rfl rfl rfl (aggV hlo) (size_VV hlo hlb) (V_one _) ?_; intro w6 hm6; simp only [List.set] at hm6; clear hm5))
          go_roundw
          case rel => exact ⟨k + 1, o, by omega, by go_num, rfl, hvo, h0o, by omega, hm6.dropRow⟩
          case measure => simp [intOf]; omega
      · obtain ⟨e', h1, h2⟩ := HR.out he
        simp only [Prod.mk.injEq] at h2
        obtain ⟨rfl, rfl, rfl, rfl⟩ := h2
        clear HR HF HO CS
        have d0 : dsEq o o = true := dsEq_self o
        rcases h1 with rfl | rfl
        · go_wp2_with (first
            | (refine wpList_load_all rfl rfl rfl (hm4.row 0 rfl) (aggV hlo) ?_)
            | (refine wpList_load_all rfl rfl rfl (hm4.row 1 rfl) (aggV hlo) ?_)
            | (refine wpList_run rfl (exec_neq70 rfl rfl rfl hlo hlo (r := false) (by rw [dsEq_self]; rfl)) ?_))
          go_roundw
          case rel => exact ⟨k + 1, o, by omega, by go_num, rfl, hvo, h0b, hlb0, hm4.dropRow⟩
          case measure => simp [intOf]; omega
        · go_wp2_with (first
            | (refine wpList_load_all rfl rfl rfl (hm4.row 0 rfl) (aggV hlo) ?_)
            | (refine wpList_load_all rfl rfl rfl (hm4.row 1 rfl) (aggV hlo) ?_)
            | (refine wpList_run rfl (exec_neq70 rfl rfl rfl hlo hlo (r := false) (by rw [dsEq_self]; rfl)) ?_))
          go_roundw
          case rel => exact ⟨k + 1, o, by omega, by go_num, rfl, hvo, h0b, hlb0, hm4.dropRow⟩
          case measure => simp [intOf]; omega
    · obtain rfl : l.length = k := by omega
      go_wp2_with (first
        | (go_at_call 57; have _t := hmr; refine (wakes16 _).mono ?_; rintro x w12 ⟨rfl, hb12⟩; have hm12 := hmr.call hb12; clear hmr))
      go_ret
      exact ⟨rfl, hm12.below⟩
theorem sdn16 (most : Int) (l : List Int) (v : Value) (w : World) (hv : In .i64 w v l) : Calls Try.prog 18 #[.int .i64 most, v] w fun e w' => e = .returned (.bool true) ∧ Below w.heap.size w w' := by
  by_cases p1 : most < 1
  · exact sdn_w1 most l v w hv p1
  by_cases p2 : 3000 < most
  · exact sdn_w2 most l v w hv p1 p2
  by_cases p3 : (300 : Int) < l.length
  · exact sdn_w3 most l v w hv p1 p2 p3
  exact sdn_in most l v w hv p1 p2 p3
end Go.Proofs.Ytaccjnekonmkoaa
