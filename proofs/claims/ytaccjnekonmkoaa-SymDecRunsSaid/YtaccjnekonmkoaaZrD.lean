/-
  The walks of zerorun.Number and of the comparison of two lists (winepressref02.Ints).
-/
import Derived.Test.YtaccjnekonmkoaaZrC
import Derived.Test.YtaccjnekonmkoaaOrdOwn
namespace Go.Proofs.Ytaccjnekonmkoaa
open Go Go.RowKit

theorem SrcAt {w : World} {A : Addr} {n c j : Nat} {xs : List Value} {u : Value} (h : Src w (.slice (some A) n c) xs) (hj : xs[j]? = some u) : w.cell? (A.add j) = some u := by
  rcases h with ⟨h, _⟩ | ⟨A', c', h, hc⟩
  · cases h
  · cases h
    exact hc j u hj
theorem SrcSome {w : World} {a : Option Addr} {n c : Nat} {l : List Int} (h : Src w (.slice a n c) (vs .i64 l)) {j : Nat} (hj : j < l.length) : ∃ A, a = some A := by
  rcases h with ⟨_, h0⟩ | ⟨A, c, h, _⟩
  · have := congrArg List.length h0
    rw [length_vs] at this
    simp only [List.length_nil] at this
    omega
  · injection h with h1
    exact ⟨A, h1⟩
theorem ord_readl {P : Program} {ops : Array Oper} {Q : Exit → Act → World → Prop} {i : Nat} {r : List (Nat × Bool)} {S : World → Prop} {a : Act} {w : World} {o : Oper} {v : Value} (ho : ops.toList[i]? = some o) (hw : Region.wanted o (yielded ops a.tmps) = true)
    (hrun : ∀ W, S W → (execOp a.eval o).run P W = .ok (.value v) W) (h : wpOrd P ops Q r S (a.put o.dst v) w) : wpOrd P ops Q ((i, true) :: r) S a w :=
  ord_read (by rw [← Array.getElem?_toList]; exact ho) hw hrun h
theorem ord_dol {P : Program} {ops : Array Oper} {Q : Exit → Act → World → Prop} {i : Nat} {r : List (Nat × Bool)} {S : World → Prop} {a : Act} {w : World} {o : Oper} (ho : ops.toList[i]? = some o) (hw : Region.wanted o (yielded ops a.tmps) = true)
    (h : ∀ K : Act → World → Prop, (∀ a' w', (∃ S' : World → Prop, (∀ W, S' W → S W) ∧ S' w' ∧ wpOrd P ops Q r S' a' w') → K a' w') → o.wp P a w K Q) : wpOrd P ops Q ((i, false) :: r) S a w :=
  ord_do (by rw [← Array.getElem?_toList]; exact ho) hw h

set_option maxRecDepth 100000 in
set_option maxHeartbeats 1000000 in
/-- The comparison of two lists. -/
theorem ints_any (v u : Value) (l k : List Int) (w : World) (hv : ∃ a c, v = .slice a l.length c) (hu : ∃ a c, u = .slice a k.length c) (sv : Src w v (vs .i64 l)) (su : Src w u (vs .i64 k)) (hl : l.length ≤ 10000) : Calls Try.prog 40 #[v, u] w fun x w' => x = .returned (.bool (l == k)) ∧ Below w.heap.size w w' := by
  obtain ⟨a1, c1, rfl⟩ := hv
  obtain ⟨a2, c2, rfl⟩ := hu
  obtain ⟨i3, hE⟩ := el39
  have HE := Lib.hid hE
  have SV := Lib.hid sv
  have SU := Lib.hid su
  clear hE sv su
  by_cases hlen : l.length = k.length
  · rw [← hlen] at SU ⊢
    have HLEN := Lib.hid hlen
    clear hlen
    go_enter Try.func40, Try.ntmps40
    have hm := Own.nil w
    go_wp2_with fail
    go_loopw [5] (fun v wr => ∃ i : Nat, i ≤ l.length ∧ v = .int .i64 i ∧ l.take i = k.take i ∧ Own w wr [] []) (fun v _ => l.length - (intOf v).toNat)
    case atStart => exact ⟨0, by omega, rfl, rfl, hm⟩
    case round =>
      obtain ⟨i, hi, rfl, hpre, hmr⟩ := hrel
      clear hm
      have HP := Lib.hid hpre
      clear hpre
      by_cases hlt : i < l.length
      · have hlt2 : i < k.length := by have := HLEN.out; omega
        obtain ⟨A, rfl⟩ := SrcSome SV.out hlt
        obtain ⟨B, rfl⟩ := SrcSome SU.out hlt2
        have hA := (SrcAt SV.out (get_vs .i64 l i hlt))
        have hB := (SrcAt SU.out (get_vs .i64 k i hlt2))
        have gl : gi l i = l[i] := by simp [gi, List.getD_eq_getElem?_getD, List.getElem?_eq_getElem hlt]
        have gk : gi k i = k[i] := by simp [gi, List.getD_eq_getElem?_getD, List.getElem?_eq_getElem hlt2]
        have GL := Lib.hid gl
        have GK := Lib.hid gk
        clear gl gk
        by_cases hx : gi l i = gi k i
        · have HX : Hid (l.take (i + 1) = k.take (i + 1)) := by
            show l.take (i + 1) = k.take (i + 1)
            rw [List.take_succ_eq_append_getElem hlt, List.take_succ_eq_append_getElem hlt2, ← GL.out, ← GK.out, hx, HP.out]
          rw [hx] at hA
          go_wp2_with fail
          refine wp_region_ord [(0, true), (1, true), (2, true), (3, true), (4, true), (5, true), (6, true), (7, true), (8, true)] (fun W => Below w.heap.size w W) rfl (by kernel_rfl) rfl (by kernel_rfl) (fun _ _ d _ _ h => by cases d <;> exact h) (hmr.drawn (wr.drawn + 1)).below ?_
          have hm8 := hmr.drawn (wr.drawn + 1)
          generalize ({ wr with drawn := wr.drawn + 1 } : World) = w8 at hm8 ⊢
          refine ord_readl rfl rfl (fun W hW => by go_simp; rfl) ?_
          simp only [Act.put, List.setIfInBounds_toArray, List.set_cons_zero, List.set_cons_succ]
          refine ord_readl rfl rfl (fun W hW => by go_simp; rfl) ?_
          simp only [Act.put, List.setIfInBounds_toArray, List.set_cons_zero, List.set_cons_succ]
          refine ord_readl rfl rfl (fun W hW => exec_indexAddr_sl rfl HE.out rfl rfl rfl hlt) ?_
          simp only [Act.put, List.setIfInBounds_toArray, List.set_cons_zero, List.set_cons_succ]
          refine ord_readl rfl rfl (fun W hW => exec_loadaddr rfl rfl one3 ((hW.cell (block_lt_of_cell hA)).trans hA)) ?_
          simp only [Act.put, List.setIfInBounds_toArray, List.set_cons_zero, List.set_cons_succ]
          refine ord_readl rfl rfl (fun W hW => by go_simp; rfl) ?_
          simp only [Act.put, List.setIfInBounds_toArray, List.set_cons_zero, List.set_cons_succ]
          refine ord_readl rfl rfl (fun W hW => by go_simp; rfl) ?_
          simp only [Act.put, List.setIfInBounds_toArray, List.set_cons_zero, List.set_cons_succ]
          refine ord_readl rfl rfl (fun W hW => exec_indexAddr_sl rfl HE.out rfl rfl rfl hlt) ?_
          simp only [Act.put, List.setIfInBounds_toArray, List.set_cons_zero, List.set_cons_succ]
          refine ord_readl rfl rfl (fun W hW => exec_loadaddr rfl rfl one3 ((hW.cell (block_lt_of_cell hB)).trans hB)) ?_
          simp only [Act.put, List.setIfInBounds_toArray, List.set_cons_zero, List.set_cons_succ]
          refine ord_readl rfl rfl (fun W hW => by go_simp; rfl) ?_
          simp only [Act.put, List.setIfInBounds_toArray, List.set_cons_zero, List.set_cons_succ]
          refine ord_nil ?_
          go_simp
          go_wp2
          go_roundw
          case rel => exact ⟨i + 1, by omega, by go_num, HX.out, hm8⟩
          case measure => simp [intOf]; omega
        · have HX : Hid ((l == k) = false) := by
            show (l == k) = false
            rw [beq_eq_false_iff_ne]
            rintro rfl
            exact hx rfl
          have e1 : (gi l i == gi k i) = false := by simpa using hx
          have e2 : decide (gi l i = gi k i) = false := decide_eq_false hx
          go_wp2_with fail
          refine wp_region_ord [(0, true), (1, true), (2, true), (3, true), (4, true), (5, true), (6, true), (7, true), (8, true)] (fun W => Below w.heap.size w W) rfl (by kernel_rfl) rfl (by kernel_rfl) (fun _ _ d _ _ h => by cases d <;> exact h) (hmr.drawn (wr.drawn + 1)).below ?_
          have hm8 := hmr.drawn (wr.drawn + 1)
          generalize ({ wr with drawn := wr.drawn + 1 } : World) = w8 at hm8 ⊢
          refine ord_readl rfl rfl (fun W hW => by go_simp; rfl) ?_
          simp only [Act.put, List.setIfInBounds_toArray, List.set_cons_zero, List.set_cons_succ]
          refine ord_readl rfl rfl (fun W hW => by go_simp; rfl) ?_
          simp only [Act.put, List.setIfInBounds_toArray, List.set_cons_zero, List.set_cons_succ]
          refine ord_readl rfl rfl (fun W hW => exec_indexAddr_sl rfl HE.out rfl rfl rfl hlt) ?_
          simp only [Act.put, List.setIfInBounds_toArray, List.set_cons_zero, List.set_cons_succ]
          refine ord_readl rfl rfl (fun W hW => exec_loadaddr rfl rfl one3 ((hW.cell (block_lt_of_cell hA)).trans hA)) ?_
          simp only [Act.put, List.setIfInBounds_toArray, List.set_cons_zero, List.set_cons_succ]
          refine ord_readl rfl rfl (fun W hW => by go_simp; rfl) ?_
          simp only [Act.put, List.setIfInBounds_toArray, List.set_cons_zero, List.set_cons_succ]
          refine ord_readl rfl rfl (fun W hW => by go_simp; rfl) ?_
          simp only [Act.put, List.setIfInBounds_toArray, List.set_cons_zero, List.set_cons_succ]
          refine ord_readl rfl rfl (fun W hW => exec_indexAddr_sl rfl HE.out rfl rfl rfl hlt) ?_
          simp only [Act.put, List.setIfInBounds_toArray, List.set_cons_zero, List.set_cons_succ]
          refine ord_readl rfl rfl (fun W hW => exec_loadaddr rfl rfl one3 ((hW.cell (block_lt_of_cell hB)).trans hB)) ?_
          simp only [Act.put, List.setIfInBounds_toArray, List.set_cons_zero, List.set_cons_succ]
          refine ord_readl rfl rfl (fun W hW => by go_simp; rfl) ?_
          simp only [Act.put, List.setIfInBounds_toArray, List.set_cons_zero, List.set_cons_succ]
          refine ord_nil ?_
          go_simp
          go_wp2
          go_ret
          exact ⟨by rw [HX.out]; rfl, hm8.below⟩
      · obtain rfl : i = l.length := by omega
        have HX : Hid ((l == k) = true) := by
          show (l == k) = true
          have := HP.out
          rw [HLEN.out, List.take_length, ← HLEN.out, List.take_length] at this
          rw [this]
          exact beq_self_eq_true k
        go_wp2_with fail
        go_ret
        exact ⟨by rw [HX.out]; rfl, hmr.below⟩
  · have hn1 : ((l.length : Int) == (k.length : Int)) = false := by simpa [Int.natCast_inj] using hlen
    have hn2 : ¬ (l.length : Int) = (k.length : Int) := by omega
    have HX : Hid ((l == k) = false) := by
      show (l == k) = false
      rw [beq_eq_false_iff_ne]
      rintro rfl
      exact hlen rfl
    go_enter Try.func40, Try.ntmps40
    have hm := Own.nil w
    go_wp2_with fail
    go_ret
    exact ⟨by rw [HX.out]; rfl, hm.below⟩

/-- What Number makes of the digits that are still to come. -/
def numF : List Int → Int → Nat → Int × Int
  | [], n, _ => (n, 0)
  | d :: l, n, i => if addE n i d = 0 then numF l (addV n i d) (i + 1) else (0, 2)
def numO (l : List Int) : Int × Int := numF l 0 0
theorem addE_two {n k d : Int} (h : ¬ addE n k d = 0) : addE n k d = 2 := by
  unfold addE at *
  split at h
  · exact absurd rfl h
  · rename_i hn; rw [if_neg hn]
theorem drop_cons0 (t : List Int) (m : Nat) (h : m < t.length) : t.drop m = gi t m :: t.drop (m + 1) := by
  rw [List.drop_eq_getElem_cons h]
  simp [gi, List.getD_eq_getElem?_getD, List.getElem?_eq_getElem h]

set_option maxRecDepth 100000 in
set_option maxHeartbeats 1000000 in
/-- **zerorun.Number**, at every list. -/
theorem number_any (v : Value) (l : List Int) (w : World) (hv : In .i64 w v l) (hl : l.length ≤ 1000) : Calls Try.prog 36 #[v] w (PairPost w (numO l).1 (numO l).2) := by
  obtain ⟨ad, cp, rfl, hc⟩ := hv
  obtain ⟨i3, hE⟩ := el39
  have HE := Lib.hid hE
  have HC := Lib.hid hc
  clear hE hc
  go_enter Try.func36, Try.ntmps36
  have hm := Own.nil w
  go_wp2_with fail
  go_loopw [2, 8] (fun v u wr => ∃ (k : Nat) (n : Int), k ≤ l.length ∧ v = .int .i64 n ∧ u = .int .i64 k ∧ numO l = numF (l.drop k) n k ∧ Own w wr [] []) (fun _ u _ => l.length - (intOf u).toNat)
  case atStart => exact ⟨0, 0, by omega, rfl, rfl, rfl, hm⟩
  case round =>
    obtain ⟨k, n, hk, rfl, rfl, hx, hmr⟩ := hrel
    clear hm
    by_cases hlt : k < l.length
    · obtain ⟨A, rfl, hA0⟩ := HC.out k hlt
      have hA : wr.cell? (A.add k) = some (.int .i64 (gi l k)) := (hmr.below.cell (block_lt_of_cell hA0)).trans hA0
      rw [drop_cons0 l k hlt] at hx
      have hst : numF (gi l k :: l.drop (k + 1)) n k = if addE n k (gi l k) = 0 then numF (l.drop (k + 1)) (addV n k (gi l k)) (k + 1) else (0, 2) := rfl
      rw [hst] at hx
      have CA : Hid (∀ w, Calls Try.prog 38 #[.int .i64 n, .int .i64 k, .int .i64 (gi l k)] w (PairPost w (addV n k (gi l k)) (addE n k (gi l k)))) := fun w => add_any n k (gi l k) w
      have HB := Lib.hid hA0
      clear hst hA0
      generalize gi l k = x at *
      generalize hV : addV n k x = V at *
      by_cases hE0 : addE n k x = 0
      · rw [if_pos hE0] at hx
        rw [hE0] at CA
        have HX := Lib.hid hx
        clear hx hE0 hV
        go_wp2_with (first
          | (refine wpList_run rfl (exec_indexAddr_sl rfl HE.out rfl rfl rfl hlt) ?_)
          | (refine wpList_run rfl (exec_loadaddr rfl rfl one3 hA) ?_)
          | (go_at_call 38; have _t := hmr; refine (CA.out _).mono ?_; rintro e w2 ⟨rfl, hb2⟩; have hm2 := hmr.call hb2; clear hmr))
        go_roundw
        case rel => exact ⟨k + 1, V, by omega, rfl, by go_num, HX.out, hm2⟩
        case measure => simp [intOf]; omega
      · rw [if_neg hE0] at hx
        rw [addE_two hE0] at CA
        have HX := Lib.hid hx
        clear hx hE0 hV
        go_wp2_with (first
          | (refine wpList_run rfl (exec_indexAddr_sl rfl HE.out rfl rfl rfl hlt) ?_)
          | (refine wpList_run rfl (exec_loadaddr rfl rfl one3 hA) ?_)
          | (go_at_call 38; have _t := hmr; refine (CA.out _).mono ?_; rintro e w2 ⟨rfl, hb2⟩; have hm2 := hmr.call hb2; clear hmr))
        go_ret2
        exact ⟨by rw [HX.out]; rfl, hm2.below⟩
    · obtain rfl : k = l.length := by omega
      have HX : Hid (numO l = (n, 0)) := by show numO l = _; rw [hx, List.drop_length]; rfl
      clear hx
      go_wp2_with fail
      go_ret2
      exact ⟨by rw [HX.out]; rfl, hmr.below⟩
end Go.Proofs.Ytaccjnekonmkoaa
