/-
  Part 14 of the proof.
-/
import Derived.Test.YtkpbhdhkdonghaaGreatT01
import Derived.Test.YtkpbhdhkdonghaaGreatT09
import Derived.Test.YtkpbhdhkdonghaaGreatT12
import Derived.Test.YtkpbhdhkdonghaaGreatT13
set_option linter.all false
namespace Go.Proofs.YtkpbhdhkdonghaaGreat
open Go Go.RowKit
open Go.Sort
def orI : List Int → Int
  | [] => 0
  | a :: l => if a = 0 then orI l else a
theorem orI_drop (l : List Int) (k : Nat) (h : k < l.length) : orI (l.drop k) = if gi l k = 0 then orI (l.drop (k + 1)) else gi l k := by
  rw [List.drop_eq_getElem_cons h, orI, gi_eq l k h]
set_option maxRecDepth 100000 in
set_option maxHeartbeats 1000000 in
theorem or_any (v : Value) (l : List Int) (w : World) (hv : In .i64 w v l) (hn : l.length ≤ 1000000) : Calls Tryz.prog 206 #[v] w fun e w' => (e = .returned (.int .i64 (orI l))) ∧ w' = w := by
  obtain ⟨ad, cp, rfl, hc⟩ := hv
  obtain ⟨i3, hE⟩ := el39
  have HE := Lib.hid hE
  have HC := Lib.hid hc
  obtain ⟨o, ho⟩ : ∃ o, o = orI l := ⟨_, rfl⟩
  rw [← ho]
  have HO : Hid (o = orI (l.drop 0)) := Lib.hid ho
  clear hE hc ho
  go_enter Tryz.func206, Tryz.ntmps206
  go_wp2
  go_loopw [8] (fun u wr => ∃ k : Nat, k ≤ l.length ∧ u = .int .i64 k ∧ o = orI (l.drop k) ∧ wr = w) (fun u _ => l.length - (intOf u).toNat)
  case atStart => exact ⟨0, by omega, rfl, HO.out, rfl⟩
  case round =>
    obtain ⟨k, hk, rfl, ho, rfl⟩ := hrel
    by_cases hlt : k < l.length
    · obtain ⟨A, rfl, hA⟩ := HC.out k hlt
      rw [orI_drop l k hlt] at ho
      have w3 : IntKind.i64.wrap ((k : Int) + 1) = ((k + 1 : Nat) : Int) := by rw [IntWalk.i64_in _ (by omega)]; push_cast; rfl
      by_cases h0 : gi l k = 0
      · rw [if_pos h0] at ho
        have HN := Lib.hid ho
        rw [h0] at hA
        clear ho h0
        go_wp2_with (first
          | (refine wpList_run rfl (exec_indexAddr_sl rfl HE.out rfl rfl rfl hlt) ?_)
          | (refine wpList_run rfl (exec_loadaddr rfl rfl one3 hA) ?_))
        go_roundw
        case rel => exact ⟨k + 1, by omega, by go_num, HN.out, trivial⟩
        case measure => simp [intOf]; omega
      · rw [if_neg h0] at ho
        have q1 : (gi l k == 0) = false := by simpa using h0
        have q2 : (gi l k != 0) = true := by simpa using h0
        have HN := Lib.hid ho
        clear ho h0
        generalize gi l k = x at *
        go_wp2_with (first
          | (refine wpList_run rfl (exec_indexAddr_sl rfl HE.out rfl rfl rfl hlt) ?_)
          | (refine wpList_run rfl (exec_loadaddr rfl rfl one3 hA) ?_))
        go_ret
        exact ⟨by rw [HN.out]; rfl, rfl⟩
    · obtain rfl : l.length = k := by omega
      have HN : Hid (o = 0) := Lib.hid (by rw [ho, List.drop_length]; rfl)
      clear ho
      go_wp2
      go_ret
      exact ⟨by rw [HN.out]; rfl, rfl⟩
def cf (x y : Pr) : Int := orI [cmpI x.1 y.1, cmpI x.2 y.2]
theorem cf_lt (x y : Pr) : ltOf cf x y = plt x y := by
  rw [Bool.eq_iff_iff, plt_iff]
  simp only [ltOf, decide_eq_true_eq, cf, orI, cmpI]
  by_cases h1 : x.1 < y.1
  · simp [h1]
  · by_cases h2 : y.1 < x.1
    · simp [h1, h2]; omega
    · by_cases h3 : x.2 < y.2
      · simp [h1, h2, h3]; omega
      · by_cases h4 : y.2 < x.2 <;> simp [h1, h2, h3, h4]
theorem cf_swo : Sort.SWO (ltOf cf) where
  irrefl x := by rw [cf_lt]; exact plt_irrefl x
  trans x y z h1 h2 := by rw [cf_lt] at *; exact plt_trans h1 h2
  ntrans x y z h1 h2 := by
    rw [cf_lt] at *
    cases h3 : plt x z with
    | false => rfl
    | true =>
      rcases plt_total x y with h | h | h
      · rw [h] at h1; cases h1
      · subst h; rw [h3] at h2; cases h2
      · rw [plt_trans h h3] at h2; cases h2
theorem exec_build2 {P : Program} {w : World} {o : Oper} {a : Act} {t e : TypeId} {i : TypeInfo} {z : Value} {bytes : Nat} {x y : Operand} (ho : o.op = .buildSlice t 2 #[(0, x), (1, y)]) (he : ElTy P t e i z bytes) {u v : Value} (hx : a.eval x = u) (hu : u.cells = #[u]) (hy : a.eval y = v) (hv : v.cells = #[v]) :
    (execOp a.eval o).run P w = .ok (.value (.slice (some ⟨w.heap.size, 0, none⟩) 2 2)) (w.alloc (.cells #[u, v] e)) := by
  have hz : (zeroValue e).run P w = .ok z w := by simp [zeroValue, typeInfo, he.info, he.zero]
  unfold execOp
  simp only [ho, Instr.buildSlice, Sem.run_bind, run_underlying he.under, Result.andThen_ok, sizeOf, typeInfo, run_program, he.info, List.map_toArray, List.map_cons, List.map_nil, hx, hy]
  have hr : Array.range 2 = #[0, 1] := by decide
  simp [Instr.fill, hu, hv, he.size, newRow, hz, Result.andThen, hr]
def enP (x : Pr) : List Value := [.int .i64 x.1, .int .i64 x.2]
def ClS (W0 : World) (g1 g2 : Nat) (x y : Pr) (W : World) : Prop := RowIs W g1 (enP x).toArray ∧ RowIs W g2 (enP y).toArray ∧ ∃ q os, W = grow (W0.drewN q) os
theorem ClS.alloc {W0 W : World} {g1 g2 : Nat} {x y : Pr} (h : ClS W0 g1 g2 x y W) (o : Obj) : ClS W0 g1 g2 x y (W.alloc o) := by
  obtain ⟨h1, h2, q, os, rfl⟩ := h
  have hb := (Below.refl (grow (W0.drewN q) os).heap.size (grow (W0.drewN q) os)).alloc (Nat.le_refl _) o
  exact ⟨h1.below hb, h2.below hb, q, _, by rw [alloc_eq_grow, grow_grow]⟩
theorem ClS.drawn1 {W0 W : World} {g1 g2 : Nat} {x y : Pr} (h : ClS W0 g1 g2 x y W) : ClS W0 g1 g2 x y { W with drawn := W.drawn + 1 } := by
  obtain ⟨h1, h2, q, os, rfl⟩ := h
  exact ⟨h1, h2, q + 1, os, by simp [grow, World.drewN, Nat.add_assoc]⟩
set_option maxRecDepth 100000 in
set_option maxHeartbeats 2000000 in
theorem closure205 (x y : Pr) (W : World) : Calls Tryz.prog 205 #[.agg (enP x).toArray, .agg (enP y).toArray] W fun e w' => e = .returned (.int .i64 (cf x y)) ∧ ∃ q os', w' = grow (W.drewN q) os' := by
  obtain ⟨x1, x2⟩ := x
  obtain ⟨y1, y2⟩ := y
  obtain ⟨o, ho⟩ : ∃ o, o = cf (x1, x2) (y1, y2) := ⟨_, rfl⟩
  rw [← ho]
  have CO : Hid (∀ (W : World) (v : Value), In .i64 W v [cmpI x1 y1, cmpI x2 y2] → Calls Tryz.prog 206 #[v] W fun e w' => (e = .returned (.int .i64 o)) ∧ w' = W) := Lib.hid fun W v h => by
    rw [ho]
    exact or_any v _ W h (by simp)
  have CC : Hid (∀ a b W, Calls Tryz.prog 207 #[.int .i64 a, .int .i64 b] W fun e w' => (e = .returned (.int .i64 (cmpI a b))) ∧ w' = W) := Lib.hid cmp_any
  clear ho
  simp only [enP]
  go_enter Tryz.func205, Tryz.ntmps205
  go_upto_region 1 with fail
  obtain ⟨i3, hE⟩ := el39
  have HL := Lib.hid hE
  clear hE
  have hS : ClS W W.heap.size (W.heap.size + 1) (x1, x2) (y1, y2) ((W.alloc (Obj.cells #[Value.int IntKind.i64 x1, Value.int IntKind.i64 x2] 241)).alloc (Obj.cells #[Value.int IntKind.i64 y1, Value.int IntKind.i64 y2] 241)) := by
    have h1 := RowIs.new W #[Value.int IntKind.i64 x1, Value.int IntKind.i64 x2] 241
    have h2 := RowIs.new (W.alloc (Obj.cells #[Value.int IntKind.i64 x1, Value.int IntKind.i64 x2] 241)) #[Value.int IntKind.i64 y1, Value.int IntKind.i64 y2] 241
    rw [show (W.alloc (Obj.cells #[Value.int IntKind.i64 x1, Value.int IntKind.i64 x2] 241)).heap.size = W.heap.size + 1 by rw [alloc_eq_grow, size_grow]; rfl] at h2
    exact ⟨h1.below ((Below.refl _ _).alloc (Nat.le_refl _) _), h2, 0, _, by rw [alloc_eq_grow, alloc_eq_grow, grow_grow]; rfl⟩
  generalize W.heap.size = g1 at *
  generalize g1 + 1 = g2 at *
  generalize (W.alloc (Obj.cells #[Value.int IntKind.i64 x1, Value.int IntKind.i64 x2] 241)).alloc (Obj.cells #[Value.int IntKind.i64 y1, Value.int IntKind.i64 y2] 241) = w at *
  refine wp_region_K 13 (.rds [(0, false), (1, true), (2, false), (3, true), (5, false), (6, true), (7, false), (8, true)] (.one 4 (.one 9 (.one 10 (.one 11 (.rp 12 .done)))))) (ClS W g1 g2 (x1, x2) (y1, y2)) rfl (by kernel_rfl) rfl (by kernel_rfl) (fun _ _ d _ _ h => by cases d <;> exact h) hS.drawn1 ?_
  replace hS := hS.drawn1
  generalize ({ w with drawn := w.drawn + 1 } : World) = w5 at *
  clear w
  rename World => w
  simp only [KT.rds]
  refine K_p rfl rfl (fun W => by go_simp; rfl) ?_
  try simp only [Act.put, List.setIfInBounds_toArray, List.set_cons_zero, List.set_cons_succ]
  refine K_m rfl rfl (fun W hW => exec_loadaddr rfl rfl one3 ((hW.1.cell 0).trans rfl)) ?_
  try simp only [Act.put, List.setIfInBounds_toArray, List.set_cons_zero, List.set_cons_succ]
  refine K_p rfl rfl (fun W => by go_simp; rfl) ?_
  try simp only [Act.put, List.setIfInBounds_toArray, List.set_cons_zero, List.set_cons_succ]
  refine K_m rfl rfl (fun W hW => exec_loadaddr rfl rfl one3 ((hW.2.1.cell 0).trans rfl)) ?_
  try simp only [Act.put, List.setIfInBounds_toArray, List.set_cons_zero, List.set_cons_succ]
  refine K_p rfl rfl (fun W => by go_simp; rfl) ?_
  try simp only [Act.put, List.setIfInBounds_toArray, List.set_cons_zero, List.set_cons_succ]
  refine K_m rfl rfl (fun W hW => exec_loadaddr rfl rfl one3 ((hW.1.cell 1).trans rfl)) ?_
  try simp only [Act.put, List.setIfInBounds_toArray, List.set_cons_zero, List.set_cons_succ]
  refine K_p rfl rfl (fun W => by go_simp; rfl) ?_
  try simp only [Act.put, List.setIfInBounds_toArray, List.set_cons_zero, List.set_cons_succ]
  refine K_m rfl rfl (fun W hW => exec_loadaddr rfl rfl one3 ((hW.2.1.cell 1).trans rfl)) ?_
  try simp only [Act.put, List.setIfInBounds_toArray, List.set_cons_zero, List.set_cons_succ]
  refine one_do rfl rfl (fun K hK => ?_)
  go_simp
  refine (CC.out _ _ _).mono ?_
  rintro e w1 ⟨rfl, rfl⟩
  refine hK _ _ ⟨ClS W g1 g2 (x1, x2) (y1, y2), fun _ h => h, hS, ?_⟩
  clear hK K
  try simp only [Act.put, List.setIfInBounds_toArray, List.set_cons_zero, List.set_cons_succ]
  refine one_do rfl rfl (fun K hK => ?_)
  go_simp
  refine (CC.out _ _ _).mono ?_
  rintro e w ⟨rfl, rfl⟩
  refine hK _ _ ⟨ClS W g1 g2 (x1, x2) (y1, y2), fun _ h => h, hS, ?_⟩
  clear hK K
  try simp only [Act.put, List.setIfInBounds_toArray, List.set_cons_zero, List.set_cons_succ]
  refine one_eff rfl rfl (Eff.val (exec_build2 rfl HL.out rfl rfl rfl rfl) ?_)
  have hS2 := hS.alloc (.cells #[Value.int .i64 (cmpI x1 y1), Value.int .i64 (cmpI x2 y2)] 3)
  have hR := RowIs.new w #[Value.int .i64 (cmpI x1 y1), Value.int .i64 (cmpI x2 y2)] 3
  refine ⟨ClS W g1 g2 (x1, x2) (y1, y2), fun _ h => h, hS2, ?_⟩
  try simp only [Act.put, List.setIfInBounds_toArray, List.set_cons_zero, List.set_cons_succ]
  have CI : In .i64 (w.alloc (.cells #[Value.int .i64 (cmpI x1 y1), Value.int .i64 (cmpI x2 y2)] 3)) (.slice (some ⟨w.heap.size, 0, none⟩) 2 2) [cmpI x1 y1, cmpI x2 y2] := ⟨some ⟨w.heap.size, 0, none⟩, 2, rfl, fun i hi => ⟨_, rfl, by
    rw [Addr.add_lit, hR.cell, Nat.zero_add]
    rcases i with _ | _ | i
    · rfl
    · rfl
    · simp at hi; omega⟩⟩
  have CO2 := CO.out (w.alloc (.cells #[Value.int .i64 (cmpI x1 y1), Value.int .i64 (cmpI x2 y2)] 3)) _ CI
  clear CI CO
  refine one_do rfl rfl (fun K hK => ?_)
  go_simp
  refine CO2.mono ?_
  rintro e w3 ⟨rfl, rfl⟩
  refine hK _ _ ⟨ClS W g1 g2 (x1, x2) (y1, y2), fun _ h => h, hS2, ?_⟩
  clear hK K
  try simp only [Act.put, List.setIfInBounds_toArray, List.set_cons_zero, List.set_cons_succ]
  refine K_p rfl rfl (fun W => by go_simp; rfl) ?_
  try simp only [Act.put, List.setIfInBounds_toArray, List.set_cons_zero, List.set_cons_succ]
  refine K_done ?_
  go_wp2
  go_ret
  obtain ⟨_, _, hq⟩ := hS2
  exact ⟨rfl, hq⟩
end Go.Proofs.YtkpbhdhkdonghaaGreat
