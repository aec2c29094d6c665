/-
  What the encoder computes, told plainly; the walks of New, Valid, Run and of the comparison of two lists.
-/
import Derived.Test.YtaccjnekonmkoaaSt
import Derived.Test.YtaccjnekonmkoaaZrS
import Derived.Test.YtaccjnekonmkoaaPlainC
namespace Go.Proofs.Ytaccjnekonmkoaa
open Go Go.RowKit

/-- Is a state valid? -/
def encOk (l : List Int) (r : Int) : Bool := vld l && decide (0 ≤ r ∧ r ≤ 2147483647)
theorem encOk_new : encOk new 0 = true := by
  rw [encOk, (vl_iff len_new vl_new.bytes).2 vl_new]; rfl
set_option maxRecDepth 100000 in
theorem enew_any (w : World) : Calls Try.prog 53 #[] w fun e w' => (e = .returned (.agg (EV new 0))) ∧ Below w.heap.size w w' := by
  go_enter Try.func53, Try.ntmps53
  have hm := Own.nil w
  go_wp2_with (first
    | (refine wpList_alloc_o hm rfl rfl zero57 ?_; intro w2 g2 hm2; clear hm)
    | (go_at_call 27; have _t := hm2; refine (new_any _).mono ?_; rintro e w3 ⟨rfl, hb3⟩; have hm3 := hm2.call hb3; clear hm2)
    | (refine wpList_run rfl (exec_build57 rfl rfl len_new) ?_)
    | (refine wpList_store_o 0 hm3 rfl rfl rfl rfl rfl (aggE _ len_new) (by rw [size_EV _ len_new, size_EV _ len_zeros]) (EV_one _ _) ?_; intro w4 hm4; simp only [List.set] at hm4; clear hm3))
  refine bodyPost_ret (results_agg1 rfl rfl (hm4.row 0 rfl) (aggE _ len_new)) rfl ?_
  exact ⟨rfl, hm4.below⟩
set_option maxRecDepth 100000 in
theorem renew_any (w : World) : Calls Try.prog 54 #[] w fun e w' => (e = .returned (.agg (EV new 0))) ∧ Below w.heap.size w w' := by
  go_enter Try.func54, Try.ntmps54
  have hm := Own.nil w
  go_wp2_with (first
    | (refine wpList_alloc_o hm rfl rfl zero57 ?_; intro w2 g2 hm2; clear hm)
    | (go_at_call 28; have _t := hm2; refine (rnew_any _).mono ?_; rintro e w3 ⟨rfl, hb3⟩; have hm3 := hm2.call hb3; clear hm2)
    | (refine wpList_run rfl (exec_build57 rfl rfl len_new) ?_)
    | (refine wpList_store_o 0 hm3 rfl rfl rfl rfl rfl (aggE _ len_new) (by rw [size_EV _ len_new, size_EV _ len_zeros]) (EV_one _ _) ?_; intro w4 hm4; simp only [List.set] at hm4; clear hm3))
  refine bodyPost_ret (results_agg1 rfl rfl (hm4.row 0 rfl) (aggE _ len_new)) rfl ?_
  exact ⟨rfl, hm4.below⟩

set_option maxRecDepth 100000 in
set_option maxHeartbeats 1000000 in
/-- The comparison of two lists. -/
theorem ints7_any (v u : Value) (l k : List Int) (w : World) (hv : ∃ a c, v = .slice a l.length c) (hu : ∃ a c, u = .slice a k.length c) (sv : Src w v (vs .i64 l)) (su : Src w u (vs .i64 k)) (hl : l.length ≤ 10000) : Calls Try.prog 50 #[v, u] w fun x w' => x = .returned (.bool (l == k)) ∧ Below w.heap.size w w' := by
  obtain ⟨a1, c1, rfl⟩ := hv
  obtain ⟨a2, c2, rfl⟩ := hu
  obtain ⟨i3, hE⟩ := el39
  have HE := Lib.hid hE
  have SV := Lib.hid sv
  have SU := Lib.hid su
  clear hE sv su
  by_cases hlen : l.length = k.length
  · rw [← hlen] at SU ⊢
    have HLEN := Lib.hid hlen
    clear hlen
    go_enter Try.func50, Try.ntmps50
    have hm := Own.nil w
    go_wp2_with fail
    go_loopw [5] (fun v wr => ∃ i : Nat, i ≤ l.length ∧ v = .int .i64 i ∧ l.take i = k.take i ∧ Own w wr [] []) (fun v _ => l.length - (intOf v).toNat)
    case atStart => exact ⟨0, by omega, rfl, rfl, hm⟩
    case round =>
      obtain ⟨i, hi, rfl, hpre, hmr⟩ := hrel
      clear hm
      have HP := Lib.hid hpre
      clear hpre
      by_cases hlt : i < l.length
      · have hlt2 : i < k.length := by have := HLEN.out; omega
        obtain ⟨A, rfl⟩ := SrcSome SV.out hlt
        obtain ⟨B, rfl⟩ := SrcSome SU.out hlt2
        have hA := (SrcAt SV.out (get_vs .i64 l i hlt))
        have hB := (SrcAt SU.out (get_vs .i64 k i hlt2))
        have gl : gi l i = l[i] := by simp [gi, List.getD_eq_getElem?_getD, List.getElem?_eq_getElem hlt]
        have gk : gi k i = k[i] := by simp [gi, List.getD_eq_getElem?_getD, List.getElem?_eq_getElem hlt2]
        have GL := Lib.hid gl
        have GK := Lib.hid gk
        clear gl gk
        by_cases hx : gi l i = gi k i
        · have HX : Hid (l.take (i + 1) = k.take (i + 1)) := by
            show l.take (i + 1) = k.take (i + 1)
            rw [List.take_succ_eq_append_getElem hlt, List.take_succ_eq_append_getElem hlt2, ← GL.out, ← GK.out, hx, HP.out]
          rw [hx] at hA
          go_wp2_with fail
          refine wp_region_ord [(0, true), (1, true), (2, true), (3, true), (4, true), (5, true), (6, true), (7, true), (8, true)] (fun W => Below w.heap.size w W) rfl (by kernel_rfl) rfl (by kernel_rfl) (fun _ _ d _ _ h => by cases d <;> exact h) (hmr.drawn (wr.drawn + 1)).below ?_
          have hm8 := hmr.drawn (wr.drawn + 1)
          generalize ({ wr with drawn := wr.drawn + 1 } : World) = w8 at hm8 ⊢
          refine ord_readl rfl rfl (fun W hW => by go_simp; rfl) ?_
          simp only [Act.put, List.setIfInBounds_toArray, List.set_cons_zero, List.set_cons_succ]
          refine ord_readl rfl rfl (fun W hW => by go_simp; rfl) ?_
          simp only [Act.put, List.setIfInBounds_toArray, List.set_cons_zero, List.set_cons_succ]
          refine ord_readl rfl rfl (fun W hW => exec_indexAddr_sl rfl HE.out rfl rfl rfl hlt) ?_
          simp only [Act.put, List.setIfInBounds_toArray, List.set_cons_zero, List.set_cons_succ]
          refine ord_readl rfl rfl (fun W hW => exec_loadaddr rfl rfl one3 ((hW.cell (block_lt_of_cell hA)).trans hA)) ?_
          simp only [Act.put, List.setIfInBounds_toArray, List.set_cons_zero, List.set_cons_succ]
          refine ord_readl rfl rfl (fun W hW => by go_simp; rfl) ?_
          simp only [Act.put, List.setIfInBounds_toArray, List.set_cons_zero, List.set_cons_succ]
          refine ord_readl rfl rfl (fun W hW => by go_simp; rfl) ?_
          simp only [Act.put, List.setIfInBounds_toArray, List.set_cons_zero, List.set_cons_succ]
          refine ord_readl rfl rfl (fun W hW => exec_indexAddr_sl rfl HE.out rfl rfl rfl hlt) ?_
          simp only [Act.put, List.setIfInBounds_toArray, List.set_cons_zero, List.set_cons_succ]
          refine ord_readl rfl rfl (fun W hW => exec_loadaddr rfl rfl one3 ((hW.cell (block_lt_of_cell hB)).trans hB)) ?_
          simp only [Act.put, List.setIfInBounds_toArray, List.set_cons_zero, List.set_cons_succ]
          refine ord_readl rfl rfl (fun W hW => by go_simp; rfl) ?_
          simp only [Act.put, List.setIfInBounds_toArray, List.set_cons_zero, List.set_cons_succ]
          refine ord_nil ?_
          go_simp
          go_wp2
          go_roundw
          case rel => exact ⟨i + 1, by omega, by go_num, HX.out, hm8⟩
          case measure => simp [intOf]; omega
        · have HX : Hid ((l == k) = false) := by
            show (l == k) = false
            rw [beq_eq_false_iff_ne]
            rintro rfl
            exact hx rfl
          have e1 : (gi l i == gi k i) = false := by simpa using hx
          have e2 : decide (gi l i = gi k i) = false := decide_eq_false hx
          go_wp2_with fail
          refine wp_region_ord [(0, true), (1, true), (2, true), (3, true), (4, true), (5, true), (6, true), (7, true), (8, true)] (fun W => Below w.heap.size w W) rfl (by kernel_rfl) rfl (by kernel_rfl) (fun _ _ d _ _ h => by cases d <;> exact h) (hmr.drawn (wr.drawn + 1)).below ?_
          have hm8 := hmr.drawn (wr.drawn + 1)
          generalize ({ wr with drawn := wr.drawn + 1 } : World) = w8 at hm8 ⊢
          refine ord_readl rfl rfl (fun W hW => by go_simp; rfl) ?_
          simp only [Act.put, List.setIfInBounds_toArray, List.set_cons_zero, List.set_cons_succ]
          refine ord_readl rfl rfl (fun W hW => by go_simp; rfl) ?_
          simp only [Act.put, List.setIfInBounds_toArray, List.set_cons_zero, List.set_cons_succ]
          refine ord_readl rfl rfl (fun W hW => exec_indexAddr_sl rfl HE.out rfl rfl rfl hlt) ?_
          simp only [Act.put, List.setIfInBounds_toArray, List.set_cons_zero, List.set_cons_succ]
          refine ord_readl rfl rfl (fun W hW => exec_loadaddr rfl rfl one3 ((hW.cell (block_lt_of_cell hA)).trans hA)) ?_
          simp only [Act.put, List.setIfInBounds_toArray, List.set_cons_zero, List.set_cons_succ]
          refine ord_readl rfl rfl (fun W hW => by go_simp; rfl) ?_
          simp only [Act.put, List.setIfInBounds_toArray, List.set_cons_zero, List.set_cons_succ]
          refine ord_readl rfl rfl (fun W hW => by go_simp; rfl) ?_
          simp only [Act.put, List.setIfInBounds_toArray, List.set_cons_zero, List.set_cons_succ]
          refine ord_readl rfl rfl (fun W hW => exec_indexAddr_sl rfl HE.out rfl rfl rfl hlt) ?_
          simp only [Act.put, List.setIfInBounds_toArray, List.set_cons_zero, List.set_cons_succ]
          refine ord_readl rfl rfl (fun W hW => exec_loadaddr rfl rfl one3 ((hW.cell (block_lt_of_cell hB)).trans hB)) ?_
          simp only [Act.put, List.setIfInBounds_toArray, List.set_cons_zero, List.set_cons_succ]
          refine ord_readl rfl rfl (fun W hW => by go_simp; rfl) ?_
          simp only [Act.put, List.setIfInBounds_toArray, List.set_cons_zero, List.set_cons_succ]
          refine ord_nil ?_
          go_simp
          go_wp2
          go_ret
          exact ⟨by rw [HX.out]; rfl, hm8.below⟩
      · obtain rfl : i = l.length := by omega
        have HX : Hid ((l == k) = true) := by
          show (l == k) = true
          have := HP.out
          rw [HLEN.out, List.take_length, ← HLEN.out, List.take_length] at this
          rw [this]
          exact beq_self_eq_true k
        go_wp2_with fail
        go_ret
        exact ⟨by rw [HX.out]; rfl, hmr.below⟩
  · have hn1 : ((l.length : Int) == (k.length : Int)) = false := by simpa [Int.natCast_inj] using hlen
    have hn2 : ¬ (l.length : Int) = (k.length : Int) := by omega
    have HX : Hid ((l == k) = false) := by
      show (l == k) = false
      rw [beq_eq_false_iff_ne]
      rintro rfl
      exact hlen rfl
    go_enter Try.func50, Try.ntmps50
    have hm := Own.nil w
    go_wp2_with fail
    go_ret
    exact ⟨by rw [HX.out]; rfl, hm.below⟩

/-- A list handed back. -/
def RunPost (w : World) (l : List Int) (x : Ending) (w' : World) : Prop := (∃ v, x = .returned v ∧ w'.ownsRow w.heap.size 3 1 v l.length (vs .i64 l)) ∧ Below w.heap.size w w'
set_option maxRecDepth 100000 in
set_option maxHeartbeats 2000000 in
theorem rrun_any (m : Nat) (hm31 : m < 2 ^ 31) (w : World) : Calls Try.prog 70 #[.int .i64 m] w (RunPost w (dg m)) := by
  have g1 : ¬ (m : Int) < 0 := by omega
  have g2 : ¬ (2147483647 : Int) < m := by omega
  have hlen := len_dg 31 m hm31
  obtain ⟨i3, hE⟩ := el39
  have HE := Lib.hid hE
  clear hE
  go_enter Try.func70, Try.ntmps70
  have hm := (Own.nil w).addNil 3
  go_wp2_with fail
  go_loopw [0, 3] (fun u o wr => ∃ (k : Nat) (out : List Int) (ao : Option Addr) (co : Nat), k < 2 ^ 31 ∧ u = .int .i64 k ∧ o = .slice ao out.length co ∧ dg m = out ++ dg k ∧ Own w wr [] [(.slice ao out.length co, 3, vs .i64 out)]) (fun u _ _ => (intOf u).toNat)
  case atStart => exact ⟨m, [], none, 0, hm31, rfl, rfl, rfl, hm⟩
  case round =>
    obtain ⟨k, out, ao, co, hk, rfl, rfl, hx, hmr⟩ := hrel
    clear hm
    have ho : out.length ≤ 31 := by
      have := congrArg List.length hx
      rw [List.length_append] at this
      omega
    have hle : (vs .i64 out).length ≤ 31 := by rw [length_vs]; exact ho
    by_cases hk0 : k = 0
    · subst hk0
      have HX : Hid (dg m = out) := by show dg m = out; rw [hx, dg_zero, List.append_nil]
      clear hx
      go_wp2_with fail
      go_ret
      have hg := hmr.get 0 rfl
      dsimp only at hg
      exact ⟨⟨_, rfl, by rw [HX.out]; exact own_len0 hg⟩, hmr.below⟩
    · have hst := dg_step k (by omega)
      have q0 : (0 : Int) < k := by omega
      rcases (by omega : ((k - 1 : Nat) : Int) % 2 = 0 ∨ ((k - 1 : Nat) : Int) % 2 = 1) with hp | hp
      · rw [hst, hp] at hx
        have HX : Hid (dg m = (out ++ [0]) ++ dg ((k - 1) / 2)) := by show _ = _; rw [hx]; simp
        have t1 : (k : Int) % 2 = 1 := by omega
        have t2 : (k : Int).tmod 2 = 1 := by rw [Int.tmod_eq_emod_of_nonneg (by omega)]; exact t1
        clear hx hst
        go_wp2_with (first
          | (refine wpList_build1_o (v := .int .i64 0) hmr rfl rfl HE.out rfl rfl ?_; intro w3 g3 hm3; clear hmr)
          | (refine wpList_append_o 0 hm3 rfl rfl HE.out rfl rfl rfl (Src.one (hm3.row 0 rfl)) (one_list _ rfl) (by simp only [List.length_cons, List.length_nil]; omega) (by simp only [List.length_cons, List.length_nil]; omega) ?_; intro ad4 c4 w4 hm4; simp only [List.set] at hm4; clear hm3))
        go_roundw
        case rel =>
          have e : vs .i64 out ++ [Value.int .i64 0] = vs .i64 (out ++ [0]) := by simp [vs]
          have e2 : (vs .i64 out).length + 1 = (out ++ [0]).length := by simp [length_vs]
          have e3 : (vs .i64 out).length + [Value.int .i64 0].length = (out ++ [0]).length := by simp [length_vs]
          rw [e] at hm4
          refine ⟨(k - 1) / 2, out ++ [0], ad4, c4, by omega, by go_num, by rw [← e2], HX.out, by rw [← e3]; exact hm4.dropRow⟩
        case measure => simp [intOf]; omega
      · rw [hst, hp] at hx
        have HX : Hid (dg m = (out ++ [1]) ++ dg ((k - 2) / 2)) := by show _ = _; rw [hx, show (k - 1) / 2 = (k - 2) / 2 by omega]; simp
        have t1 : (k : Int) % 2 = 0 := by omega
        have t2 : (k : Int).tmod 2 = 0 := by rw [Int.tmod_eq_emod_of_nonneg (by omega)]; exact t1
        have hk2 : 2 ≤ k := by omega
        clear hx hst
        go_wp2_with (first
          | (refine wpList_build1_o (v := .int .i64 1) hmr rfl rfl HE.out rfl rfl ?_; intro w3 g3 hm3; clear hmr)
          | (refine wpList_append_o 0 hm3 rfl rfl HE.out rfl rfl rfl (Src.one (hm3.row 0 rfl)) (one_list _ rfl) (by simp only [List.length_cons, List.length_nil]; omega) (by simp only [List.length_cons, List.length_nil]; omega) ?_; intro ad4 c4 w4 hm4; simp only [List.set] at hm4; clear hm3))
        go_roundw
        case rel =>
          have e : vs .i64 out ++ [Value.int .i64 1] = vs .i64 (out ++ [1]) := by simp [vs]
          have e2 : (vs .i64 out).length + 1 = (out ++ [1]).length := by simp [length_vs]
          have e3 : (vs .i64 out).length + [Value.int .i64 1].length = (out ++ [1]).length := by simp [length_vs]
          rw [e] at hm4
          refine ⟨(k - 2) / 2, out ++ [1], ad4, c4, by omega, by go_num, by rw [← e2], HX.out, by rw [← e3]; exact hm4.dropRow⟩
        case measure => simp [intOf]; omega
end Go.Proofs.Ytaccjnekonmkoaa
