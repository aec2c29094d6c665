/-
  Part 15 of the proof.
-/
import Derived.Lib.EndianBits
import Derived.Test.YtkpbhdhkdonghaaGreatT04
import Derived.Test.YtkpbhdhkdonghaaGreatT11
import Derived.Test.YtkpbhdhkdonghaaGreatT12
set_option linter.all false
namespace Go.Proofs.YtkpbhdhkdonghaaGreat
open Go Go.RowKit
def w32 (l : List Int) (p : Nat) : Nat → Int
  | 0 => 0
  | k + 1 => w32 l p k + gi l (p + k) * 2 ^ (8 * k)
theorem w32_bound {l : List Int} (h : ∀ i, 0 ≤ gi l i ∧ gi l i < 256) (p : Nat) : ∀ k : Nat, 0 ≤ w32 l p k ∧ w32 l p k < 2 ^ (8 * k)
  | 0 => by simp [w32]
  | k + 1 => by
    have h1 := w32_bound h p k
    have h2 := h (p + k)
    have h3 : (0 : Int) < 2 ^ (8 * k) := Int.pow_pos (by decide)
    have h4 := Int.mul_nonneg h2.1 (Int.le_of_lt h3)
    have h5 : gi l (p + k) * 2 ^ (8 * k) ≤ 255 * 2 ^ (8 * k) := Int.mul_le_mul_of_nonneg_right (by omega) (Int.le_of_lt h3)
    rw [w32, show 8 * (k + 1) = 8 * k + 8 by omega, Int.pow_add]
    omega
theorem gi_bytes {l : List Int} (h : Bytes l) (i : Nat) : 0 ≤ gi l i ∧ gi l i < 256 := by
  by_cases hi : i < l.length
  · exact h _ (by rw [gi_eq l i hi]; exact List.getElem_mem _)
  · have : gi l i = 0 := by simp [gi, List.getD, List.getElem?_eq_none (Nat.le_of_not_lt hi)]
    omega
theorem RowIs.sp {w : World} {g : Nat} {cs : Array Value} (h : RowIs w g cs) : ∀ W, Below w.heap.size w W → RowIs W g cs := h.keep
set_option maxRecDepth 100000 in
set_option maxHeartbeats 1000000 in
theorem aword_ok (ga gd a n i : Nat) (l : List Int) (live peak : Int) (w0 : World) (hr : RowIs w0 ga (AR (.slice (some ⟨gd, 0, none⟩) l.length l.length) live peak)) (h1 : (a : Int) + n ≤ live) (h2 : live ≤ l.length) (h3 : l.length ≤ 1048576) (h4 : 4 * i + 4 ≤ n) : Calls Tryz.prog 117 #[.pointer (some ⟨ga, 0, none⟩), .agg (SP a n), .int .i64 i] w0 fun e w' => (e = .returned (.slice (some ⟨gd, a + 4 * i, none⟩) 4 4)) ∧ Below w0.heap.size w0 w' := by
  have CP : Hid (∀ W, Below w0.heap.size w0 W → Calls Tryz.prog 162 #[.pointer (some ⟨ga, 0, none⟩), .agg (SP a n), .int .i64 ((4 * i : Nat) : Int), .int .i64 4] W fun e w' => (e = .returned (.slice (some ⟨gd, a + 4 * i, none⟩) 4 4)) ∧ Below W.heap.size W w') := Lib.hid fun W h => part_ok ga gd l.length a n (4 * i) 4 live peak W (hr.keep W h) h1 h2 h3 h4 (by omega)
  have q1 : decide ((i : Int) < 0) = false := decide_eq_false (by omega)
  have q2 : decide (1048576 < (i : Int)) = false := decide_eq_false (by omega)
  have w1 : IntKind.i64.wrap ((i : Int) * 4) = ((4 * i : Nat) : Int) := by rw [IntWalk.i64_in _ (by omega)]; push_cast; omega
  clear hr h1 h2 h3 h4
  go_enter Tryz.func117, Tryz.ntmps117
  have hm := Own.nil w0
  go_wp2_with (first
    | (go_at_call 162; have _t := hm; refine (CP.out _ hm.below).mono ?_; rintro e w1 ⟨rfl, hb⟩; replace hm := hm.call hb; clear hb _t)
    | (with_reducible refine gBx ?_; (refine list_eff rfl (eff_box hm rfl rfl ?_); clear hm; intro w g hm))
    | (with_reducible refine gLd (t := 50) ?_; (refine wpList_run rfl (lda 0 hm rfl rfl rfl (aggSP _ _)) ?_)))
  go_ret
  exact ⟨rfl, hm.below⟩
theorem exec_neqnil {w : World} {o : Oper} {a : Act} {x y : Operand} {t' : TypeId} (ho : o.op = .binOp .neq 22 x y t') {A : Addr} {n c : Nat} (hx : a.eval x = .slice (some A) n c) (hy : a.eval y = .slice none 0 0) : (execOp a.eval o).run Tryz.prog w = .ok (.value (.bool true)) w := by
  have h : (Op.equal 22 (.slice (some A) n c) (.slice none 0 0)).run Tryz.prog w = .ok false w := run_eqslnil w A n c
  unfold execOp
  simp [ho, hx, hy, eqGuard, binOp, h, Result.andThen]
set_option maxRecDepth 100000 in
set_option maxHeartbeats 2000000 in
theorem getword_ok (ga gd a n i : Nat) (l : List Int) (live peak : Int) (w0 : World) (hr : RowIs w0 ga (AR (.slice (some ⟨gd, 0, none⟩) l.length l.length) live peak)) (hd : RowIs w0 gd (B l)) (hb : Bytes l) (h1 : (a : Int) + n ≤ live) (h2 : live ≤ l.length) (h3 : l.length ≤ 1048576) (h4 : 4 * i + 4 ≤ n) : Calls Tryz.prog 120 #[.pointer (some ⟨ga, 0, none⟩), .agg (SP a n), .int .i64 i] w0 fun e w' => (e = .returned (.tuple #[.int .u32 (w32 l (a + 4 * i) 4), .bool true])) ∧ Below w0.heap.size w0 w' := by
  have CP : Hid (∀ W, Below w0.heap.size w0 W → Calls Tryz.prog 117 #[.pointer (some ⟨ga, 0, none⟩), .agg (SP a n), .int .i64 i] W fun e w' => (e = .returned (.slice (some ⟨gd, a + 4 * i, none⟩) 4 4)) ∧ Below W.heap.size W w') := Lib.hid fun W h => aword_ok ga gd a n i l live peak W (hr.keep W h) h1 h2 h3 h4
  have HD := Lib.hid hd.keep
  have HG : Hid (∀ k, k < 4 → (B l)[a + 4 * i + k]? = some (.int .u8 (gi l (a + 4 * i + k)))) := Lib.hid fun k hk => get_B l _ (by omega)
  have HB := Lib.hid (gi_bytes hb)
  obtain ⟨i5, hE⟩ := em22
  have HE := Lib.hid hE
  clear hr hd hb h1 h2 h3 h4 hE
  generalize a + 4 * i = p at *
  go_enter Tryz.func120, Tryz.ntmps120
  have hm := Own.nil w0
  go_wp2_with (first
    | (go_at_call 117; have _t := hm; refine (CP.out _ hm.below).mono ?_; rintro e w1 ⟨rfl, hb⟩; replace hm := hm.call hb; clear hb _t)
    | (with_reducible refine gBx ?_; (refine list_eff rfl (eff_box hm rfl rfl ?_); clear hm; intro w g hm))
    | (with_reducible refine gLd (t := 50) ?_; (refine wpList_run rfl (lda 0 hm rfl rfl rfl (aggSP _ _)) ?_)))
  go_loopw [6, 17] (fun z u wr => ∃ k : Nat, k ≤ 4 ∧ u = .int .i64 k ∧ z = .int .u32 (w32 l p k) ∧ Own w0 wr [(g, SP a n)] []) (fun _ u _ => 4 - (intOf u).toNat)
  case atStart => exact ⟨0, by omega, rfl, rfl, hm⟩
  case round =>
    clear hm
    obtain ⟨k, hk, rfl, rfl, hm⟩ := hrel
    have hc : k = 0 ∨ k = 1 ∨ k = 2 ∨ k = 3 ∨ k = 4 := by omega
    clear hk
    have hB := w32_bound HB.out p k
    have hx := HB.out (p + k)
    have HW : Hid (w32 l p (k + 1) = w32 l p k + gi l (p + k) * 2 ^ (8 * k)) := Lib.hid rfl
    rcases hc with rfl | rfl | rfl | rfl | rfl
    · have hcell := HG.out 0 (by decide)
      have hlt : 0 < 4 := by decide
      generalize gi l (p + 0) = x at *
      generalize w32 l p 0 = y at *
      have w1 : IntKind.u32.wrap x = x := IntWalk.u32_in _ (by omega)
      have hm1 : x * 1 % 4294967296 = x * 1 := by omega
      have EO : Hid (Value.int .u32 (bits .or .u32 y x) = Value.int .u32 (y + x * 2 ^ (8 * 0))) := Lib.hid (by
        have h := bits_join_low .u32 32 (by decide) (fun n h0 h1 => IntWalk.u32_in n (by omega)) 0 y x (by omega) (by omega) (by omega) (by omega) (by omega) (by omega)
        rw [h]; simp)
      clear hB hx
      go_wp2_with (first
          | (with_reducible refine gIa ?_; (refine wpList_run rfl (ix1 (k := 0) rfl HE.out rfl rfl rfl hlt) ?_))
          | (with_reducible refine gLd (t := 5) ?_; (refine wpList_run rfl (exec_loadcell' (off := p + 0) rfl rfl (HD.out _ hm.below) one5 hcell) ?_)))
      go_roundw
      case rel => exact ⟨1, by omega, rfl, by rw [HW.out]; exact EO.out, hm⟩
      case measure => simp [intOf]
    · have hcell := HG.out 1 (by decide)
      have hlt : 1 < 4 := by decide
      generalize gi l (p + 1) = x at *
      generalize w32 l p 1 = y at *
      have w1 : IntKind.u32.wrap x = x := IntWalk.u32_in _ (by omega)
      have hm1 : x * 256 % 4294967296 = x * 256 := by omega
      have EO : Hid (Value.int .u32 (bits .or .u32 y (x * 256)) = Value.int .u32 (y + x * 2 ^ (8 * 1))) := Lib.hid (by
        have h := bits_join_low .u32 32 (by decide) (fun n h0 h1 => IntWalk.u32_in n (by omega)) 8 y (x * 256) (by omega) (by omega) (by omega) (by omega) (by omega) (by omega)
        rw [h]; simp)
      clear hB hx
      go_wp2_with (first
          | (with_reducible refine gIa ?_; (refine wpList_run rfl (ix1 (k := 1) rfl HE.out rfl rfl rfl hlt) ?_))
          | (with_reducible refine gLd (t := 5) ?_; (refine wpList_run rfl (exec_loadcell' (off := p + 1) rfl rfl (HD.out _ hm.below) one5 hcell) ?_)))
      go_roundw
      case rel => exact ⟨2, by omega, rfl, by rw [HW.out]; exact EO.out, hm⟩
      case measure => simp [intOf]
    · have hcell := HG.out 2 (by decide)
      have hlt : 2 < 4 := by decide
      generalize gi l (p + 2) = x at *
      generalize w32 l p 2 = y at *
      have w1 : IntKind.u32.wrap x = x := IntWalk.u32_in _ (by omega)
      have hm1 : x * 65536 % 4294967296 = x * 65536 := by omega
      have EO : Hid (Value.int .u32 (bits .or .u32 y (x * 65536)) = Value.int .u32 (y + x * 2 ^ (8 * 2))) := Lib.hid (by
        have h := bits_join_low .u32 32 (by decide) (fun n h0 h1 => IntWalk.u32_in n (by omega)) 16 y (x * 65536) (by omega) (by omega) (by omega) (by omega) (by omega) (by omega)
        rw [h]; simp)
      clear hB hx
      go_wp2_with (first
          | (with_reducible refine gIa ?_; (refine wpList_run rfl (ix1 (k := 2) rfl HE.out rfl rfl rfl hlt) ?_))
          | (with_reducible refine gLd (t := 5) ?_; (refine wpList_run rfl (exec_loadcell' (off := p + 2) rfl rfl (HD.out _ hm.below) one5 hcell) ?_)))
      go_roundw
      case rel => exact ⟨3, by omega, rfl, by rw [HW.out]; exact EO.out, hm⟩
      case measure => simp [intOf]
    · have hcell := HG.out 3 (by decide)
      have hlt : 3 < 4 := by decide
      generalize gi l (p + 3) = x at *
      generalize w32 l p 3 = y at *
      have w1 : IntKind.u32.wrap x = x := IntWalk.u32_in _ (by omega)
      have hm1 : x * 16777216 % 4294967296 = x * 16777216 := by omega
      have EO : Hid (Value.int .u32 (bits .or .u32 y (x * 16777216)) = Value.int .u32 (y + x * 2 ^ (8 * 3))) := Lib.hid (by
        have h := bits_join_low .u32 32 (by decide) (fun n h0 h1 => IntWalk.u32_in n (by omega)) 24 y (x * 16777216) (by omega) (by omega) (by omega) (by omega) (by omega) (by omega)
        rw [h]; simp)
      clear hB hx
      go_wp2_with (first
          | (with_reducible refine gIa ?_; (refine wpList_run rfl (ix1 (k := 3) rfl HE.out rfl rfl rfl hlt) ?_))
          | (with_reducible refine gLd (t := 5) ?_; (refine wpList_run rfl (exec_loadcell' (off := p + 3) rfl rfl (HD.out _ hm.below) one5 hcell) ?_)))
      go_roundw
      case rel => exact ⟨4, by omega, rfl, by rw [HW.out]; exact EO.out, hm⟩
      case measure => simp [intOf]
    · go_wp2_with (first
          | (with_reducible refine gBo ?_; (refine wpList_run rfl (exec_neqnil rfl rfl rfl) ?_)))
      go_ret2
      exact ⟨rfl, hm.below⟩
end Go.Proofs.YtkpbhdhkdonghaaGreat
