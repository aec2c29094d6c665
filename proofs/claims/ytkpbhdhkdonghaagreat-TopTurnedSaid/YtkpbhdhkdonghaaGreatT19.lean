/-
  Part 19 of the proof.
-/
import Derived.OwnWalk
import Derived.Test.YtkpbhdhkdonghaaGreatT01
import Derived.Test.YtkpbhdhkdonghaaGreatT11
import Derived.Test.YtkpbhdhkdonghaaGreatT12
import Derived.Test.YtkpbhdhkdonghaaGreatT15
import Derived.Test.YtkpbhdhkdonghaaGreatT17
import Derived.Test.YtkpbhdhkdonghaaGreatT18
set_option linter.all false
namespace Go.Proofs.YtkpbhdhkdonghaaGreat
open Go Go.RowKit
def stw (l : List Int) (p : Nat) (v : Int) : Nat → List Int
  | 0 => l
  | k + 1 => (stw l p v k).set (p + k) (v / 2 ^ (8 * k) % 256)
theorem len_stw (l : List Int) (p : Nat) (v : Int) : ∀ k, (stw l p v k).length = l.length
  | 0 => rfl
  | k + 1 => by rw [stw, List.length_set, len_stw l p v k]
theorem gi_stw (l : List Int) (p : Nat) (v : Int) (i : Nat) : ∀ k, p + k ≤ l.length → gi (stw l p v k) i = if p ≤ i ∧ i < p + k then v / 2 ^ (8 * (i - p)) % 256 else gi l i
  | 0, _ => by rw [stw, if_neg (by omega)]
  | k + 1, h => by
    rw [stw, gi_put (by rw [len_stw]; omega), gi_stw l p v i k (by omega)]
    by_cases e : i = p + k
    · rw [if_pos e, if_pos (by omega), show i - p = k by omega]
    · rw [if_neg e]
      by_cases e2 : p ≤ i ∧ i < p + k
      · rw [if_pos e2, if_pos (by omega)]
      · rw [if_neg e2, if_neg (by omega)]
theorem w32_congr {l m : List Int} {p : Nat} : ∀ k, (∀ i, p ≤ i → i < p + k → gi l i = gi m i) → w32 l p k = w32 m p k
  | 0, _ => rfl
  | k + 1, h => by rw [w32, w32, w32_congr k (fun i h1 h2 => h i h1 (by omega)), h (p + k) (by omega) (by omega)]
theorem w32_stw {l : List Int} {p : Nat} {v : Int} (h : p + 4 ≤ l.length) (h0 : 0 ≤ v) (h1 : v < 4294967296) : w32 (stw l p v 4) p 4 = v := by
  simp only [w32]
  rw [gi_stw l p v _ 4 h, gi_stw l p v _ 4 h, gi_stw l p v _ 4 h, gi_stw l p v _ 4 h, if_pos (by omega), if_pos (by omega), if_pos (by omega), if_pos (by omega), show p + 0 - p = 0 by omega, show p + 1 - p = 1 by omega, show p + 2 - p = 2 by omega, show p + 3 - p = 3 by omega]
  simp
  omega
theorem w32_stw_ne {l : List Int} {p q : Nat} {v : Int} (h : p + 4 ≤ l.length) (hq : q + 4 ≤ p ∨ p + 4 ≤ q) : w32 (stw l p v 4) q 4 = w32 l q 4 :=
  w32_congr 4 fun i h1 h2 => by rw [gi_stw l p v i 4 h, if_neg (by omega)]
theorem stw_bytes {l : List Int} {p : Nat} {v : Int} (hb : Bytes l) : ∀ k, Bytes (stw l p v k)
  | 0 => hb
  | k + 1 => fun x hx => by
    rcases List.mem_or_eq_of_mem_set hx with h | rfl
    · exact stw_bytes hb k x h
    · omega
end Go.Proofs.YtkpbhdhkdonghaaGreat

namespace Go.Proofs.YtkpbhdhkdonghaaGreat
open Go Go.RowKit
def colOf (l : List Int) (a n : Nat) : List Int := seg l a (a + n)
theorem gi_col {l : List Int} {a n i : Nat} (h : a + n ≤ l.length) (hi : i < n) : gi (colOf l a n) i = gi l (a + i) := by
  simp only [colOf, seg, gi, List.getD]
  rw [List.getElem?_drop, List.getElem?_take_of_lt (by omega)]
theorem len_col {l : List Int} {a n : Nat} (h : a + n ≤ l.length) : (colOf l a n).length = n := by simp [colOf, seg]; omega
structure Marks (col : List Int) (l l2 : List Int) (b d q p : Nat) : Prop where
  len : l2.length = l.length
  byt : Bytes l2
  out : ∀ i, i < b → gi l2 i = gi l i
  word : ∀ j c, c < 256 → (j < q ∨ j = q ∧ c < p) → w32 l2 (b + 4 * (256 * j + c)) 4 = eqn (col.take ((j + 1) * d)) c
theorem Marks.set {col l l2 : List Int} {b d q p : Nat} (h : Marks col l l2 b d q p) (hp : p < 256) (hf : b + 4 * (256 * q + p) + 4 ≤ l.length) {v : Int} (hv : v = eqn (col.take ((q + 1) * d)) p) (v1 : v < 4294967296) : Marks col l (stw l2 (b + 4 * (256 * q + p)) v 4) b d q (p + 1) := by
  have hl := h.len
  refine ⟨by rw [len_stw, hl], stw_bytes h.byt 4, fun i hi => ?_, fun j c hc hjc => ?_⟩
  · rw [gi_stw _ _ _ _ 4 (by omega), if_neg (by omega), h.out i hi]
  · by_cases e : j = q ∧ c = p
    · obtain ⟨rfl, rfl⟩ := e
      rw [w32_stw (by omega) (by rw [hv]; exact (eqn_bound _ _).1) v1, hv]
    · rw [w32_stw_ne (by omega) (by omega)]
      exact h.word j c hc (by omega)
theorem Marks.up {col l l2 : List Int} {b d q : Nat} (h : Marks col l l2 b d q 256) : Marks col l l2 b d (q + 1) 0 :=
  ⟨h.len, h.byt, h.out, fun j c hc hjc => h.word j c hc (by omega)⟩
theorem Marks.zero (col l : List Int) (hb : Bytes l) (b d : Nat) : Marks col l l b d 0 0 := ⟨rfl, hb, fun _ _ => rfl, fun j c _ h => by omega⟩
end Go.Proofs.YtkpbhdhkdonghaaGreat

namespace Go.Proofs.YtkpbhdhkdonghaaGreat
open Go Go.RowKit
theorem exec_mul {P : Program} {w : World} {o : Oper} {a : Act} {x y : Operand} (hu : P.underlying 3 = some (.int .i64)) (ho : o.op = .binOp .mul 3 x y 3) {u v z : Int} (hx : a.eval x = .int .i64 u) (hy : a.eval y = .int .i64 v) (hw : IntKind.i64.wrap (u * v) = z) : (execOp a.eval o).run P w = .ok (.value (.int .i64 z)) w := by
  unfold execOp
  simp [ho, hx, hy, eqGuard, binOp, Op.intArith, Result.andThen, hw]
end Go.Proofs.YtkpbhdhkdonghaaGreat

namespace Go.Proofs.YtkpbhdhkdonghaaGreat
open Go Go.RowKit
structure Sampled (l : List Int) (a n b d : Nat) : Prop where
  byt : Bytes l
  word : ∀ j c, c < 256 → j < n / d → w32 l (b + 4 * (256 * j + c)) 4 = eqn ((colOf l a n).take ((j + 1) * d)) c
set_option maxRecDepth 100000 in
set_option maxHeartbeats 4000000 in
theorem rank_any (ga gd a n b m d c place : Nat) (l : List Int) (live peak : Int) (w0 : World) (hr : RowIs w0 ga (AR (.slice (some ⟨gd, 0, none⟩) l.length l.length) live peak)) (hd : RowIs w0 gd (B l)) (hS : Sampled l a n b d) (h : RkOk live a n b m d) (h2 : live ≤ l.length) (h3 : l.length ≤ 1048576) (hc : c < 256) (hp : place ≤ n) : Calls Tryz.prog 70 #[.pointer (some ⟨ga, 0, none⟩), .agg (SP a n), .agg (SP b m), .int .i64 d, .int .u8 c, .int .i64 place] w0 fun e w' => (e = .returned (.tuple #[.int .i64 (eqn ((colOf l a n).take place) c), .int .i64 ((place % d : Nat) : Int), .bool true])) ∧ Below w0.heap.size w0 w' := by
  have CV : Hid (∀ W, Below w0.heap.size w0 W → Calls Tryz.prog 118 #[.pointer (some ⟨ga, 0, none⟩), .agg (SP a n), .agg (SP b m), .int .i64 d] W fun e w' => (e = .returned (.bool true)) ∧ Below W.heap.size W w') := Lib.hid fun W hW => rvalid_ok ga _ live peak a n b m d h W (hr.keep W hW)
  obtain ⟨n1, n2, d1, d2, ap, fit, big, lim⟩ := h
  have HL : Hid ((colOf l a n).length = n) := Lib.hid (len_col (by omega))
  have HCG : Hid (∀ i, i < n → gi (colOf l a n) i = gi l (a + i)) := Lib.hid fun i hi => gi_col (by omega) hi
  have HBY := Lib.hid (hS.byt)
  obtain ⟨q, hq⟩ : ∃ q : Nat, q = place / d := ⟨_, rfl⟩
  obtain ⟨t, ht⟩ : ∃ t : Nat, t = q * d := ⟨_, rfl⟩
  have htp : t ≤ place := by rw [ht, hq]; exact Nat.div_mul_le_self place d
  have hr0 : place % d = place - t := by rw [ht, hq]; have := Nat.div_add_mod place d; rw [Nat.mul_comm] at this; omega
  have e1 : (place : Int).tdiv d = (q : Int) := by rw [hq]; rfl
  have e2 : (place : Int) / d = (q : Int) := by rw [hq]; rfl
  have hqn : q ≤ place := by rw [hq]; exact Nat.div_le_self place d
  have hqd : q ≤ n / d := by rw [hq]; exact Nat.div_le_div_right hp
  have CW : Hid (∀ W, Below w0.heap.size w0 W → 0 < q → Calls Tryz.prog 120 #[.pointer (some ⟨ga, 0, none⟩), .agg (SP b m), .int .i64 (((q : Int) - 1) * 256 + c)] W fun e w' => (e = .returned (.tuple #[.int .u32 (eqn ((colOf l a n).take t) c), .bool true])) ∧ Below W.heap.size W w') := Lib.hid fun W hW hq0 => by
    have hx := getword_ok ga gd b m (256 * (q - 1) + c) l live peak W (hr.keep W hW) (hd.keep W hW) hS.byt (by omega) h2 h3 (by omega)
    rw [hS.word (q - 1) c hc (by omega), show q - 1 + 1 = q by omega, ← ht] at hx
    rw [show ((q : Int) - 1) * 256 + c = ((256 * (q - 1) + c : Nat) : Int) by omega]
    exact hx
  have CB : Hid (∀ W (i : Nat), Below w0.heap.size w0 W → i < n → Calls Tryz.prog 116 #[.pointer (some ⟨ga, 0, none⟩), .agg (SP a n), .int .i64 i] W fun e w' => (e = .returned (.tuple #[.int .u8 (gi (colOf l a n) i), .bool true])) ∧ Below W.heap.size W w') := Lib.hid fun W i hW hi => by
    have := byte_ok ga gd a n i l live peak W (hr.keep W hW) (hd.keep W hW) (by omega) h2 h3 hi
    rwa [← HCG.out i hi] at this
  have q0 : ((d : Int) == 0) = false := by simp; omega
  have q0b : (d : Int) ≠ 0 := by omega
  have w1 : IntKind.i64.wrap (q : Int) = (q : Int) := IntWalk.i64_in _ (by omega)
  have HW2 : Hid (IntKind.i64.wrap ((q : Int) * (d : Int)) = (t : Int)) := Lib.hid (by rw [show (q : Int) * (d : Int) = ((q * d : Nat) : Int) by push_cast; rfl, ← ht]; exact IntWalk.i64_in _ (by omega))
  have w3 : wi place 0 n = true := wi_t (by omega) (by omega)
  have HR0 := Lib.hid hr0
  have HT0 : Hid (q = 0 → t = 0) := Lib.hid (fun h => by rw [ht, h, Nat.zero_mul])
  clear hr hd hS hq ht hr0 hqd big HCG
  generalize colOf l a n = col at *
  by_cases hq0 : q = 0
  · subst hq0
    have HT1 : Hid (t = 0) := Lib.hid (HT0.out rfl)
    clear HT0
    go_enter Tryz.func70, Tryz.ntmps70
    have hm := Own.nil w0
    go_wp2_with (first
      | (go_at_call 118; have _t := hm; refine (CV.out _ hm.below).mono ?_; rintro e w1 ⟨rfl, hb⟩; replace hm := hm.call hb; clear hb _t)
      | (go_at_call 119; refine (rwithin _ _ _ _).mono ?_; rintro e w1 ⟨rfl, rfl⟩)
      | (with_reducible refine gBx ?_; (refine list_eff rfl (eff_box hm rfl rfl ?_); clear hm; first | (have _t := g1; intro w g2 hm) | intro w g1 hm))
      | (with_reducible refine gBo ?_; (refine wpList_run rfl (exec_mul Tryz.underlying3 rfl rfl rfl HW2.out) ?_))
      | (with_reducible refine gLd (t := 3) ?_; (first | (refine wpList_run rfl (ld 0 hm rfl rfl rfl (ot rfl) (by first | exact (SP0 _ _) | exact (SP1 _ _))) ?_) | (refine wpList_run rfl (ld 1 hm rfl rfl rfl (ot rfl) (by first | exact (SP0 _ _) | exact (SP1 _ _))) ?_)))
      | (with_reducible refine gLd (t := 50) ?_; (first | (refine wpList_run rfl (lda 0 hm rfl rfl rfl (aggSP _ _)) ?_) | (refine wpList_run rfl (lda 1 hm rfl rfl rfl (aggSP _ _)) ?_))))
    go_loopw [12, 13, 18] (fun z y u wr => ∃ i : Nat, t ≤ i ∧ i ≤ place ∧ u = .int .i64 i ∧ z = .int .i64 (eqn (col.take i) c) ∧ y = .int .i64 ((i - t : Nat) : Int) ∧ Own w0 wr [(g2, SP b m), (g1, SP a n)] []) (fun _ _ u _ => place - (intOf u).toNat)
    case atStart => exact ⟨t, Nat.le_refl _, htp, rfl, by rw [HT1.out]; simp [eqn], by rw [Nat.sub_self]; rfl, hm⟩
    case round =>
      clear hm
      obtain ⟨i, hi0, hi, rfl, rfl, rfl, hm⟩ := hrel
      by_cases hlt : i < place
      · have hin : i < n := by omega
        have HE := Lib.hid (eqn_snoc col i (by rw [HL.out]; exact hin) c)
        have hbd := eqn_bound (col.take i) c
        have hlt2 := List.length_take_le' i col
        rw [HL.out] at hlt2
        have w4 : IntKind.i64.wrap (eqn (col.take i) c + 1) = eqn (col.take i) c + 1 := IntWalk.i64_in _ (by omega)
        have w5 : IntKind.i64.wrap ((((i - t : Nat)) : Int) + 1) = (((i - t : Nat)) : Int) + 1 := IntWalk.i64_in _ (by omega)
        have HY : Hid (((i + 1 - t : Nat) : Int) = (((i - t : Nat)) : Int) + 1) := Lib.hid (by omega)
        have hin2 := hin
        clear hbd hlt2
        generalize (((i - t : Nat)) : Int) = y1 at *
        generalize eqn (col.take i) c = z1 at *
        have CB1 : Hid (∀ W, Below w0.heap.size w0 W → Calls Tryz.prog 116 #[.pointer (some ⟨ga, 0, none⟩), .agg (SP a n), .int .i64 i] W fun e w' => (e = .returned (.tuple #[.int .u8 (gi col i), .bool true])) ∧ Below W.heap.size W w') := Lib.hid fun W h => CB.out W i h hin
        generalize gi col i = x at *
        by_cases hx : x = c
        · rw [if_pos hx] at HE
          subst hx
          have p1 : ((c : Int) == (c : Int)) = true := by simp
          go_wp2_with (first
              | (go_at_call 116; have _t := hm; refine (CB1.out _ hm.below).mono ?_; rintro e w1 ⟨rfl, hb⟩; replace hm := hm.call hb; clear hb _t)
              | (with_reducible refine gLd (t := 50) ?_; (refine wpList_run rfl (lda 1 hm rfl rfl rfl (aggSP _ _)) ?_)))
          go_roundw
          case rel => exact ⟨i + 1, by omega, by omega, by go_num, by rw [HE.out], by rw [HY.out], hm⟩
          case measure => simp [intOf]; omega
        · rw [if_neg hx, Int.add_zero] at HE
          have p1 : (x == (c : Int)) = false := by simpa using hx
          clear hx
          go_wp2_with (first
              | (go_at_call 116; have _t := hm; refine (CB1.out _ hm.below).mono ?_; rintro e w1 ⟨rfl, hb⟩; replace hm := hm.call hb; clear hb _t)
              | (with_reducible refine gLd (t := 50) ?_; (refine wpList_run rfl (lda 1 hm rfl rfl rfl (aggSP _ _)) ?_)))
          go_roundw
          case rel => exact ⟨i + 1, by omega, by omega, by go_num, by rw [HE.out], by rw [HY.out], hm⟩
          case measure => simp [intOf]; omega
      · obtain rfl : place = i := by omega
        have HY : Hid (((place % d : Nat) : Int) = (((place - t : Nat)) : Int)) := Lib.hid (by rw [HR0.out])
        generalize (((place - t : Nat)) : Int) = y1 at *
        generalize hz1 : eqn (col.take place) c = z1 at *
        have HZ1 := Lib.hid hz1
        clear hz1
        go_wp2
        refine bodyPost_ret (results_tmp3 rfl _ _ _) rfl ⟨by rw [HY.out, HZ1.out]; rfl, hm.below⟩
  · have hqp : 0 < q := by omega
    have p0 : decide ((0 : Int) < (q : Int)) = true := decide_eq_true (by omega)
    have p00 : decide (0 < q) = true := decide_eq_true hqp
    have w6 : IntKind.i64.wrap ((q : Int) - 1) = (q : Int) - 1 := IntWalk.i64_in _ (by omega)
    have w7 : IntKind.i64.wrap (((q : Int) - 1) * 256) = ((q : Int) - 1) * 256 := IntWalk.i64_in _ (by omega)
    have w8 : IntKind.i64.wrap (((q : Int) - 1) * 256 + c) = ((q : Int) - 1) * 256 + c := IntWalk.i64_in _ (by omega)
    have w9 : IntKind.i64.wrap (c : Int) = c := IntWalk.i64_in _ (by omega)
    have CW1 : Hid (∀ W, Below w0.heap.size w0 W → Calls Tryz.prog 120 #[.pointer (some ⟨ga, 0, none⟩), .agg (SP b m), .int .i64 (((q : Int) - 1) * 256 + c)] W fun e w' => (e = .returned (.tuple #[.int .u32 (eqn (col.take t) c), .bool true])) ∧ Below W.heap.size W w') := Lib.hid fun W h => CW.out W h hqp
    have hbd := eqn_bound (col.take t) c
    have hlt2 := List.length_take_le' t col
    rw [HL.out] at hlt2
    have w10 : IntKind.i64.wrap (eqn (col.take t) c) = eqn (col.take t) c := IntWalk.i64_in _ (by omega)
    have HZ : Hid (eqn (col.take t) c = eqn (col.take t) c) := Lib.hid rfl
    clear hbd hlt2
    go_enter Tryz.func70, Tryz.ntmps70
    have hm := Own.nil w0
    go_wp2_with (first
        | (go_at_call 118; have _t := hm; refine (CV.out _ hm.below).mono ?_; rintro e w1 ⟨rfl, hb⟩; replace hm := hm.call hb; clear hb _t)
        | (go_at_call 120; have _t := hm; refine (CW1.out _ hm.below).mono ?_; rintro e w1 ⟨rfl, hb⟩; replace hm := hm.call hb; clear hb _t)
        | (go_at_call 119; refine (rwithin _ _ _ _).mono ?_; rintro e w1 ⟨rfl, rfl⟩)
        | (with_reducible refine gBx ?_; (refine list_eff rfl (eff_box hm rfl rfl ?_); clear hm; first | (have _t := g1; intro w g2 hm) | intro w g1 hm))
        | (with_reducible refine gBo ?_; (refine wpList_run rfl (exec_mul Tryz.underlying3 rfl rfl rfl HW2.out) ?_))
        | (with_reducible refine gLd (t := 3) ?_; (first | (refine wpList_run rfl (ld 0 hm rfl rfl rfl (ot rfl) (by first | exact (SP0 _ _) | exact (SP1 _ _))) ?_) | (refine wpList_run rfl (ld 1 hm rfl rfl rfl (ot rfl) (by first | exact (SP0 _ _) | exact (SP1 _ _))) ?_)))
        | (with_reducible refine gLd (t := 50) ?_; (first | (refine wpList_run rfl (lda 0 hm rfl rfl rfl (aggSP _ _)) ?_) | (refine wpList_run rfl (lda 1 hm rfl rfl rfl (aggSP _ _)) ?_))))
    go_loopw [12, 13, 18] (fun z y u wr => ∃ i : Nat, t ≤ i ∧ i ≤ place ∧ u = .int .i64 i ∧ z = .int .i64 (eqn (col.take i) c) ∧ y = .int .i64 ((i - t : Nat) : Int) ∧ Own w0 wr [(g2, SP b m), (g1, SP a n)] []) (fun _ _ u _ => place - (intOf u).toNat)
    case atStart => exact ⟨t, Nat.le_refl _, htp, rfl, rfl, by rw [Nat.sub_self]; rfl, hm⟩
    case round =>
      clear hm
      obtain ⟨i, hi0, hi, rfl, rfl, rfl, hm⟩ := hrel
      by_cases hlt : i < place
      · have hin : i < n := by omega
        have HE := Lib.hid (eqn_snoc col i (by rw [HL.out]; exact hin) c)
        have hbd := eqn_bound (col.take i) c
        have hlt2 := List.length_take_le' i col
        rw [HL.out] at hlt2
        have w4 : IntKind.i64.wrap (eqn (col.take i) c + 1) = eqn (col.take i) c + 1 := IntWalk.i64_in _ (by omega)
        have w5 : IntKind.i64.wrap ((((i - t : Nat)) : Int) + 1) = (((i - t : Nat)) : Int) + 1 := IntWalk.i64_in _ (by omega)
        have HY : Hid (((i + 1 - t : Nat) : Int) = (((i - t : Nat)) : Int) + 1) := Lib.hid (by omega)
        have hin2 := hin
        clear hbd hlt2
        generalize (((i - t : Nat)) : Int) = y1 at *
        generalize eqn (col.take i) c = z1 at *
        have CB1 : Hid (∀ W, Below w0.heap.size w0 W → Calls Tryz.prog 116 #[.pointer (some ⟨ga, 0, none⟩), .agg (SP a n), .int .i64 i] W fun e w' => (e = .returned (.tuple #[.int .u8 (gi col i), .bool true])) ∧ Below W.heap.size W w') := Lib.hid fun W h => CB.out W i h hin
        generalize gi col i = x at *
        by_cases hx : x = c
        · rw [if_pos hx] at HE
          subst hx
          have p1 : ((c : Int) == (c : Int)) = true := by simp
          go_wp2_with (first
              | (go_at_call 116; have _t := hm; refine (CB1.out _ hm.below).mono ?_; rintro e w1 ⟨rfl, hb⟩; replace hm := hm.call hb; clear hb _t)
              | (with_reducible refine gLd (t := 50) ?_; (refine wpList_run rfl (lda 1 hm rfl rfl rfl (aggSP _ _)) ?_)))
          go_roundw
          case rel => exact ⟨i + 1, by omega, by omega, by go_num, by rw [HE.out], by rw [HY.out], hm⟩
          case measure => simp [intOf]; omega
        · rw [if_neg hx, Int.add_zero] at HE
          have p1 : (x == (c : Int)) = false := by simpa using hx
          clear hx
          go_wp2_with (first
              | (go_at_call 116; have _t := hm; refine (CB1.out _ hm.below).mono ?_; rintro e w1 ⟨rfl, hb⟩; replace hm := hm.call hb; clear hb _t)
              | (with_reducible refine gLd (t := 50) ?_; (refine wpList_run rfl (lda 1 hm rfl rfl rfl (aggSP _ _)) ?_)))
          go_roundw
          case rel => exact ⟨i + 1, by omega, by omega, by go_num, by rw [HE.out], by rw [HY.out], hm⟩
          case measure => simp [intOf]; omega
      · obtain rfl : place = i := by omega
        have HY : Hid (((place % d : Nat) : Int) = (((place - t : Nat)) : Int)) := Lib.hid (by rw [HR0.out])
        generalize (((place - t : Nat)) : Int) = y1 at *
        generalize hz1 : eqn (col.take place) c = z1 at *
        have HZ1 := Lib.hid hz1
        clear hz1
        go_wp2
        refine bodyPost_ret (results_tmp3 rfl _ _ _) rfl ⟨by rw [HY.out, HZ1.out]; rfl, hm.below⟩
end Go.Proofs.YtkpbhdhkdonghaaGreat

namespace Go.Proofs.YtkpbhdhkdonghaaGreat
open Go Go.RowKit
def wval (l : List Int) (index : Nat) : Nat → Nat → Bool
  | 0, r => decide (r = index)
  | k + 1, r => if r = index then false else wval l index k (aft l (colp index r)).toNat
end Go.Proofs.YtkpbhdhkdonghaaGreat

namespace Go.Proofs.YtkpbhdhkdonghaaGreat
open Go Go.RowKit
def sq (t : List Int) (i : Nat) : Int := if i < t.length then 1 + gi t i else 0
section
variable {s : Nat → Int} {w v i k : Nat}
def ltw (s : Nat → Int) (w i k : Nat) : Prop := ∃ j, j < w ∧ (∀ a, a < j → s (i + a) = s (k + a)) ∧ s (i + j) < s (k + j)
def eqw (s : Nat → Int) (w i k : Nat) : Prop := ∀ a, a < w → s (i + a) = s (k + a)
theorem eqw.symm (h : eqw s w i k) : eqw s w k i := fun a ha => (h a ha).symm
theorem tri (s : Nat → Int) (i k : Nat) : ∀ w, ltw s w i k ∨ eqw s w i k ∨ ltw s w k i
  | 0 => .inr (.inl fun a ha => by omega)
  | w + 1 => by
    rcases tri s i k w with ⟨j, h1, h2, h3⟩ | h | ⟨j, h1, h2, h3⟩
    · exact .inl ⟨j, by omega, h2, h3⟩
    · rcases Int.lt_trichotomy (s (i + w)) (s (k + w)) with h4 | h4 | h4
      · exact .inl ⟨w, by omega, h, h4⟩
      · refine .inr (.inl fun a ha => ?_)
        by_cases e : a = w
        · rw [e]; exact h4
        · exact h a (by omega)
      · exact .inr (.inr ⟨w, by omega, h.symm, h4⟩)
    · exact .inr (.inr ⟨j, by omega, h2, h3⟩)
theorem ltw.not_eqw (h : ltw s w i k) (h2 : eqw s w i k) : False := by
  obtain ⟨j, h3, _, h4⟩ := h
  have := h2 j h3
  omega
theorem ltw.asymm (h : ltw s w i k) (h2 : ltw s v k i) : False := by
  obtain ⟨j, _, h3, h4⟩ := h
  obtain ⟨j2, _, h5, h6⟩ := h2
  rcases Nat.lt_trichotomy j j2 with h | h | h
  · have := h5 j h; omega
  · subst h; omega
  · have := h3 j2 h; omega
theorem ltw_add : ltw s (w + v) i k ↔ ltw s w i k ∨ eqw s w i k ∧ ltw s v (i + w) (k + w) := by
  constructor
  · rintro ⟨j, h1, h2, h3⟩
    by_cases hj : j < w
    · exact .inl ⟨j, hj, h2, h3⟩
    · refine .inr ⟨fun a ha => h2 a (by omega), j - w, by omega, fun a ha => ?_, ?_⟩
      · have := h2 (w + a) (by omega)
        rw [Nat.add_assoc, Nat.add_assoc]; exact this
      · rw [Nat.add_assoc, Nat.add_assoc, show w + (j - w) = j by omega]; exact h3
  · rintro (⟨j, h1, h2, h3⟩ | ⟨h0, j, h1, h2, h3⟩)
    · exact ⟨j, by omega, h2, h3⟩
    · refine ⟨w + j, by omega, fun a ha => ?_, ?_⟩
      · by_cases hw : a < w
        · exact h0 a hw
        · have := h2 (a - w) (by omega)
          rw [Nat.add_assoc, Nat.add_assoc, show w + (a - w) = a by omega] at this
          exact this
      · rw [← Nat.add_assoc, ← Nat.add_assoc]; exact h3
def lts (s : Nat → Int) (i k : Nat) : Prop := ∃ w, ltw s w i k
theorem lts_step : lts s i k ↔ s i < s k ∨ s i = s k ∧ lts s (i + 1) (k + 1) := by
  constructor
  · rintro ⟨w, j, h1, h2, h3⟩
    rcases j with _ | j
    · exact .inl h3
    · refine .inr ⟨h2 0 (by omega), j + 1, j, by omega, fun a ha => ?_, ?_⟩
      · have := h2 (a + 1) (by omega)
        rw [show i + 1 + a = i + (a + 1) by omega, show k + 1 + a = k + (a + 1) by omega]; exact this
      · rw [show i + 1 + j = i + (j + 1) by omega, show k + 1 + j = k + (j + 1) by omega]; exact h3
  · rintro (h | ⟨h0, w, j, h1, h2, h3⟩)
    · exact ⟨1, 0, by omega, fun a ha => by omega, h⟩
    · refine ⟨j + 2, j + 1, by omega, fun a ha => ?_, ?_⟩
      · rcases a with _ | a
        · exact h0
        · have := h2 a (by omega)
          rw [show i + (a + 1) = i + 1 + a by omega, show k + (a + 1) = k + 1 + a by omega]; exact this
      · rw [show i + (j + 1) = i + 1 + j by omega, show k + (j + 1) = k + 1 + j by omega]; exact h3
end
theorem sq_end (t : List Int) : sq t t.length = 0 := if_neg (by omega)
theorem sq_zero {t : List Int} (hb : ∀ x ∈ t, 0 ≤ x) {i : Nat} (h : sq t i = 0) : t.length ≤ i := by
  rw [sq] at h
  split at h
  · rename_i hi
    have := hb _ (gi_mem t i hi)
    omega
  · omega
theorem sq_pos {t : List Int} (hb : ∀ x ∈ t, 0 ≤ x) {i : Nat} (h : i < t.length) : 0 < sq t i := by
  rw [sq, if_pos h]
  have := hb _ (gi_mem t i h)
  omega
theorem eqw_far {t : List Int} (hb : ∀ x ∈ t, 0 ≤ x) {w i k : Nat} (hi : i ≤ t.length) (h : eqw (sq t) w i k) (hw : t.length < i + w) : i ≤ k := by
  have h1 := h (t.length - i) (by omega)
  rw [show i + (t.length - i) = t.length by omega, sq_end] at h1
  have := sq_zero hb h1.symm
  omega
theorem not_ltw_out (t : List Int) (v : Nat) {i k : Nat} (hi : t.length < i) (hk : t.length < k) : ¬ ltw (sq t) v i k := by
  rintro ⟨j, _, _, h⟩
  rw [sq, sq, if_neg (by omega), if_neg (by omega)] at h
  omega
def gp (l : List Pr) (i : Nat) : Pr := l.getD i (0, 0)
theorem gp_eq (l : List Pr) (i : Nat) (h : i < l.length) : gp l i = l[i] := by simp [gp, h]
theorem gp_mem (l : List Pr) (i : Nat) (h : i < l.length) : gp l i ∈ l := by rw [gp_eq l i h]; exact List.getElem_mem h
structure Stg (t : List Int) (w : Nat) (l : List Pr) : Prop where
  len : l.length = t.length + 1
  lt : ∀ i k, i ≤ t.length → k ≤ t.length → (plt (gp l i) (gp l k) = true ↔ ltw (sq t) w i k)
theorem Stg.eq {t : List Int} {w : Nat} {l : List Pr} (h : Stg t w l) {i k : Nat} (hi : i ≤ t.length) (hk : k ≤ t.length) : gp l i = gp l k ↔ eqw (sq t) w i k := by
  constructor
  · intro he
    rcases tri (sq t) i k w with h1 | h1 | h1
    · have := (h.lt i k hi hk).2 h1
      rw [he, plt_irrefl] at this; cases this
    · exact h1
    · have := (h.lt k i hk hi).2 h1
      rw [he, plt_irrefl] at this; cases this
  · intro he
    rcases plt_total (gp l i) (gp l k) with h1 | h1 | h1
    · exact ((h.lt i k hi hk).1 h1).not_eqw he |>.elim
    · exact h1
    · exact ((h.lt k i hk hi).1 h1).not_eqw he.symm |>.elim
theorem gi_rks (l : List Pr) {i : Nat} (h : i < l.length) : gi (rks l) i = rk l (gp l i) := by
  simp [gi, rks, gp, h]
theorem len_rks (l : List Pr) : (rks l).length = l.length := by simp [rks]
theorem Stg.rk_lt {t : List Int} {w : Nat} {l : List Pr} (h : Stg t w l) {i k : Nat} (hi : i ≤ t.length) (hk : k ≤ t.length) : gi (rks l) i < gi (rks l) k ↔ ltw (sq t) w i k := by
  have hl := h.len
  rw [gi_rks l (by omega), gi_rks l (by omega), Int.ofNat_lt, rk_iff (gp_mem l i (by omega)) (gp_mem l k (by omega)), h.lt i k hi hk]
theorem Stg.rk_eq {t : List Int} {w : Nat} {l : List Pr} (h : Stg t w l) {i k : Nat} (hi : i ≤ t.length) (hk : k ≤ t.length) : gi (rks l) i = gi (rks l) k ↔ eqw (sq t) w i k := by
  have hl := h.len
  rw [gi_rks l (by omega), gi_rks l (by omega), Int.ofNat_inj, Proofs.YtkpbhdhkdonghaaGreat.rk_eq (gp_mem l i (by omega)) (gp_mem l k (by omega)), h.eq hi hk]
theorem len_two (r : List Int) (w : Nat) : (two r w).length = r.length := by simp [two]
theorem gp_two (r : List Int) (w : Nat) {i : Nat} (h : i < r.length) : gp (two r w) i = (gi r i, if i + w < r.length then gi r (i + w) else -1) := by
  simp [gp, two, h]
theorem Stg.next {t : List Int} (hb : ∀ x ∈ t, 0 ≤ x) {w : Nat} {l : List Pr} (h : Stg t w l) : Stg t (w * 2) (two (rks l) w) := by
  have hl := h.len
  refine ⟨by rw [len_two, len_rks, hl], fun i k hi hk => ?_⟩
  rw [Nat.mul_two, ltw_add, gp_two _ _ (by rw [len_rks]; omega), gp_two _ _ (by rw [len_rks]; omega), plt_iff, h.rk_lt hi hk, h.rk_eq hi hk, len_rks, hl]
  refine or_congr Iff.rfl (and_congr_right fun he => ?_)
  have h1 : t.length < i + w → i ≤ k := eqw_far hb hi he
  have h2 : t.length < k + w → k ≤ i := eqw_far hb hk he.symm
  by_cases hin : i + w ≤ t.length
  · have hkn : k + w ≤ t.length := by
      rcases Nat.lt_or_ge t.length (k + w) with h3 | h3
      · have := h2 h3; omega
      · exact h3
    rw [if_pos (by omega), if_pos (by omega)]
    exact h.rk_lt hin hkn
  · have hkn : t.length < k + w := by have := h1 (by omega); omega
    rw [if_neg (by omega), if_neg (by omega)]
    exact ⟨fun h => by omega, fun h => (not_ltw_out t w (by omega) hkn h).elim⟩
theorem Stg.first {t : List Int} (hb : ∀ x ∈ t, 0 ≤ x) : Stg t 1 (beg t) := by
  have hl : (beg t).length = t.length + 1 := by simp [beg]
  have hg : ∀ i, i ≤ t.length → gp (beg t) i = (sq t i, 0) := by
    intro i hi
    by_cases h : i < t.length
    · simp [gp, beg, sq, h, gi, List.getElem?_append]
    · obtain rfl : i = t.length := by omega
      simp [gp, beg, sq]
  refine ⟨hl, fun i k hi hk => ?_⟩
  rw [hg i hi, hg k hk, plt_iff]
  constructor
  · rintro (h | ⟨_, h⟩)
    · exact ⟨0, by omega, fun a ha => by omega, h⟩
    · exact absurd h (by simp)
  · rintro ⟨j, h1, _, h3⟩
    obtain rfl : j = 0 := by omega
    exact .inl h3
theorem Stg.done {t : List Int} (hb : ∀ x ∈ t, 0 ≤ x) {w : Nat} {l : List Pr} (h : Stg t w l) (hw : t.length < w) : many l = l.length := by
  have hn : l.Nodup := by
    rw [List.Nodup, List.pairwise_iff_getElem]
    intro i k hi hk hik he
    have hl := h.len
    have he2 : gp l i = gp l k := by rw [gp_eq l i hi, gp_eq l k hk]; exact he
    have h1 := (h.eq (i := i) (k := k) (by omega) (by omega)).1 he2
    have h2 := eqw_far hb (by omega) h1 (by omega)
    have h3 := eqw_far hb (by omega) h1.symm (by omega)
    omega
  rw [many, nub_of_nodup hn]
theorem go2_done {t : List Int} (hb : ∀ x ∈ t, 0 ≤ x) : ∀ (f w : Nat) (l : List Pr), Stg t w l → 1 ≤ w → t.length < w + f → ∃ w' l', Stg t w' l' ∧ many l' = l'.length ∧ go2 f w l = rks l'
  | 0, w, l, h, _, hf => ⟨w, l, h, h.done hb (by omega), rfl⟩
  | f + 1, w, l, h, h1, hf => by
    rw [go2]
    split
    · exact go2_done hb f (w * 2) _ (h.next hb) (by omega) (by omega)
    · rename_i hm
      have := many_le l
      exact ⟨w, l, h, by omega, rfl⟩
structure Rnk (t : List Int) (r : List Int) : Prop where
  len : r.length = t.length + 1
  lt : ∀ i k, i ≤ t.length → k ≤ t.length → (gi r i < gi r k ↔ lts (sq t) i k)
  inj : ∀ i k, i ≤ t.length → k ≤ t.length → gi r i = gi r k → i = k
  low : ∀ i, i ≤ t.length → 0 ≤ gi r i
  cnt : ∀ i, i ≤ t.length → gi r i = ((List.range (t.length + 1)).countP fun k => decide (gi r k < gi r i) : Nat)
theorem rnk_ok {t : List Int} (hb : ∀ x ∈ t, 0 ≤ x) : Rnk t (rnk t) := by
  obtain ⟨w, l, h, hm, he⟩ := go2_done hb (t.length + 1) 1 (beg t) (.first hb) (Nat.le_refl _) (by omega)
  have hn := nodup_of_nub hm
  have hl := h.len
  rw [rnk, he]
  have inj : ∀ i k, i ≤ t.length → k ≤ t.length → gi (rks l) i = gi (rks l) k → i = k := by
    intro i k hi hk h1
    rw [gi_rks l (by omega), gi_rks l (by omega), Int.ofNat_inj, rk_eq (gp_mem l i (by omega)) (gp_mem l k (by omega)), gp_eq l i (by omega), gp_eq l k (by omega)] at h1
    exact (List.getElem_inj hn).1 h1
  have lt : ∀ i k, i ≤ t.length → k ≤ t.length → (gi (rks l) i < gi (rks l) k ↔ lts (sq t) i k) := by
    intro i k hi hk
    refine ⟨fun h1 => ⟨w, (h.rk_lt hi hk).1 h1⟩, ?_⟩
    rintro ⟨v, h1⟩
    rcases Int.lt_trichotomy (gi (rks l) i) (gi (rks l) k) with h2 | h2 | h2
    · exact h2
    · obtain rfl := inj i k hi hk h2
      exact (h1.asymm h1).elim
    · exact (h1.asymm ((h.rk_lt hk hi).1 h2)).elim
  refine ⟨by rw [len_rks, hl], lt, inj, fun i hi => by rw [gi_rks l (by omega)]; omega, fun i hi => ?_⟩
  have hmap : l = (List.range (t.length + 1)).map (gp l) := by
    apply List.ext_getElem
    · simp [hl]
    · intro a h1 h2
      simp [gp, h1]
  have h2 : l.countP (plt · (gp l i)) = (List.range (t.length + 1)).countP (fun k => plt (gp l k) (gp l i)) := by
    conv => lhs; arg 2; rw [hmap]
    rw [List.countP_map]
    rfl
  have e1 : gi (rks l) i = ((List.range (t.length + 1)).countP (fun k => plt (gp l k) (gp l i)) : Nat) := by rw [gi_rks l (by omega), rk, nub_of_nodup hn, h2]
  have e2 : (List.range (t.length + 1)).countP (fun k => decide (gi (rks l) k < gi (rks l) i)) = (List.range (t.length + 1)).countP (fun k => plt (gp l k) (gp l i)) := by
    refine List.countP_congr fun k hk => ?_
    have hk := List.mem_range.1 hk
    rw [h.lt k i (by omega) hi, decide_eq_true_eq, h.rk_lt (by omega) hi]
  rw [e2]
  exact e1
section
variable {t r : List Int}
theorem Rnk.high (h : Rnk t r) {i : Nat} (hi : i ≤ t.length) : gi r i ≤ t.length := by
  rw [h.cnt i hi]
  have h1 : (List.range (t.length + 1)).countP (fun k => decide (gi r k < gi r i)) < (List.range (t.length + 1)).countP (fun _ => true) := countP_lt _ _ _ (fun _ _ _ => rfl) ⟨i, List.mem_range.2 (by omega), by simp, rfl⟩
  simp at h1
  omega
theorem Rnk.end (hb : ∀ x ∈ t, 0 ≤ x) (h : Rnk t r) : gi r t.length = 0 := by
  rw [h.cnt _ (Nat.le_refl _)]
  rw [List.countP_eq_zero.2]
  · rfl
  intro k hk
  have hk := List.mem_range.1 hk
  rw [decide_eq_true_eq, h.lt k _ (by omega) (Nat.le_refl _)]
  rintro ⟨w, j, _, h2, h3⟩
  rw [show sq t (t.length + j) = 0 from if_neg (by omega)] at h3
  rcases Nat.lt_or_ge (k + j) t.length with h4 | h4
  · have := sq_pos hb h4; omega
  · rw [show sq t (k + j) = 0 from if_neg (by omega)] at h3; omega
theorem countP_or {α : Type} (p q : α → Bool) : ∀ (l : List α), (∀ x ∈ l, p x = true → q x = false) → l.countP (fun x => p x || q x) = l.countP p + l.countP q
  | [], _ => rfl
  | a :: l, h => by
    have := countP_or p q l fun x hx => h x (List.mem_cons_of_mem _ hx)
    have ha := h a (List.mem_cons_self ..)
    rw [List.countP_cons, List.countP_cons, List.countP_cons, this]
    cases hp : p a
    · cases hq : q a <;> simp <;> omega
    · rw [ha hp]; simp; omega
theorem countP_gi (t : List Int) (p : Int → Bool) : t.countP p = (List.range t.length).countP fun k => p (gi t k) := by
  have hmap : t = (List.range t.length).map (gi t) := by
    apply List.ext_getElem
    · simp
    · intro a h1 h2
      simp [gi, h1]
  conv => lhs; rw [hmap]
  rw [List.countP_map]
  rfl
theorem Rnk.back (hb : ∀ x ∈ t, 0 ≤ x) (h : Rnk t r) {i : Nat} (h1 : 1 ≤ i) (hi : i ≤ t.length) : gi r (i - 1) = 1 + (t.countP fun x : Int => decide (x < gi t (i - 1)) : Nat) + ((List.range t.length).countP fun k => decide (gi t k = gi t (i - 1)) && decide (gi r (k + 1) < gi r i) : Nat) := by
  rw [h.cnt _ (by omega), List.range_succ, List.countP_append]
  have hs : sq t (i - 1) = 1 + gi t (i - 1) := if_pos (by omega)
  have hpos := sq_pos hb (i := i - 1) (by omega)
  have hend : ([t.length] : List Nat).countP (fun k => decide (gi r k < gi r (i - 1))) = 1 := by
    have : gi r t.length < gi r (i - 1) := (h.lt _ _ (Nat.le_refl _) (by omega)).2 (lts_step.2 (.inl (by rw [sq_end]; exact hpos)))
    simp [this]
  rw [hend, countP_gi t]
  have : (List.range t.length).countP (fun k => decide (gi r k < gi r (i - 1))) = (List.range t.length).countP fun k => decide (gi t k < gi t (i - 1)) || (decide (gi t k = gi t (i - 1)) && decide (gi r (k + 1) < gi r i)) := by
    refine List.countP_congr fun k hk => ?_
    have hk := List.mem_range.1 hk
    have hsk : sq t k = 1 + gi t k := if_pos hk
    rw [decide_eq_true_eq, h.lt k _ (by omega) (by omega), lts_step, hs, hsk, show i - 1 + 1 = i by omega, ← h.lt (k + 1) i (by omega) hi]
    simp
  rw [this, countP_or]
  · push_cast; omega
  · intro k _ h2
    rw [decide_eq_true_eq] at h2
    simp; omega
end
def ordk (r : List Int) : Nat → List Int
  | 0 => List.replicate r.length 0
  | k + 1 => (ordk r k).set (gi r k).toNat k
def ordr (r : List Int) : List Int := ordk r r.length
theorem len_ordk (r : List Int) : ∀ k, (ordk r k).length = r.length
  | 0 => by simp [ordk]
  | k + 1 => by rw [ordk, List.length_set, len_ordk r k]
def lstk (t o : List Int) : Nat → List Int
  | 0 => []
  | k + 1 => if gi o k = 0 then lstk t o k else lstk t o k ++ [gi t (gi o k - 1).toNat]
def zixk (o : List Int) : Nat → Nat
  | 0 => 0
  | k + 1 => if gi o k = 0 then k else zixk o k
def bwl (t : List Int) : List Int := lstk t (ordr (rnk t)) (t.length + 1)
def bwi (t : List Int) : Nat := zixk (ordr (rnk t)) (t.length + 1)
section
variable {t r : List Int}
theorem Rnk.ordk_at (h : Rnk t r) : ∀ k, k ≤ t.length + 1 → ∀ i, i < k → gi (ordk r k) (gi r i).toNat = i
  | 0, _, i, hi => by omega
  | k + 1, hk, i, hi => by
    have h0 := h.low i (by omega)
    have h1 := h.high (i := i) (by omega)
    have h2 := h.low k (by omega)
    have h3 := h.high (i := k) (by omega)
    have hl := h.len
    rw [ordk]
    simp only [gi, List.getD_eq_getElem?_getD, List.getElem?_set, len_ordk]
    by_cases e : k = i
    · subst e
      rw [if_pos rfl, if_pos (by simp only [gi, List.getD_eq_getElem?_getD] at *; omega)]
      rfl
    · have hne : ¬ (gi r k).toNat = (gi r i).toNat := fun he => e (h.inj k i (by omega) (by omega) (by omega))
      have ih := h.ordk_at k (by omega) i (by omega)
      simp only [gi, List.getD_eq_getElem?_getD] at hne ih
      rw [if_neg hne]
      exact ih
theorem pigeon : ∀ (n : Nat) (l : List Nat), l.Nodup → (∀ x ∈ l, x < n) → l.length ≤ n
  | 0, l, _, h => by
    cases l with
    | nil => exact Nat.le_refl _
    | cons a l => have := h a (List.mem_cons_self ..); omega
  | n + 1, l, hn, h => by
    have h1 := pigeon n (l.erase n) (hn.erase n) fun x hx => by
      have h2 := (hn.mem_erase_iff).1 hx
      have := h x h2.2
      have := h2.1
      omega
    have h3 : l.length ≤ (l.erase n).length + 1 := by
      rw [List.length_erase]
      split <;> omega
    omega
theorem Rnk.onto (h : Rnk t r) {row : Nat} (hr : row ≤ t.length) : ∃ i, i ≤ t.length ∧ gi r i = row := by
  let l := (List.range (t.length + 1)).map fun i => (gi r i).toNat
  have hn : l.Nodup := by
    rw [List.Nodup, List.pairwise_map]
    refine List.Pairwise.imp_of_mem ?_ List.pairwise_lt_range
    intro i k hi hk hlt he
    have hi := List.mem_range.1 hi
    have hk := List.mem_range.1 hk
    have h1 := h.low i (by omega)
    have h2 := h.low k (by omega)
    have := h.inj i k (by omega) (by omega) (by omega)
    omega
  have hs : ∀ x ∈ l, x < t.length + 1 := by
    intro x hx
    obtain ⟨i, hi, rfl⟩ := List.mem_map.1 hx
    have hi := List.mem_range.1 hi
    have h1 := h.high (i := i) (by omega)
    omega
  have hp : row ∈ l := by
    refine Classical.byContradiction fun hc => ?_
    have := pigeon (t.length + 1) (row :: l) (List.nodup_cons.2 ⟨hc, hn⟩) (fun x hx => by
      rcases List.mem_cons.1 hx with rfl | hx
      · omega
      · exact hs x hx)
    simp [l] at this
    omega
  obtain ⟨i, hi, he⟩ := List.mem_map.1 hp
  have hi := List.mem_range.1 hi
  have h1 := h.low i (by omega)
  exact ⟨i, by omega, by omega⟩
theorem Rnk.ord_at (h : Rnk t r) {i : Nat} (hi : i ≤ t.length) : gi (ordr r) (gi r i).toNat = i := by
  have := h.ordk_at (t.length + 1) (Nat.le_refl _) i (by omega)
  rw [ordr, h.len]; exact this
theorem Rnk.ord_bound (h : Rnk t r) {row : Nat} (hr : row ≤ t.length) : 0 ≤ gi (ordr r) row ∧ gi (ordr r) row ≤ t.length := by
  obtain ⟨i, hi, he⟩ := h.onto hr
  have := h.ord_at hi
  rw [he, Int.toNat_natCast] at this
  omega
theorem Rnk.ord_zero (h : Rnk t r) {row : Nat} (hr : row ≤ t.length) : gi (ordr r) row = 0 ↔ (row : Int) = gi r 0 := by
  obtain ⟨i, hi, he⟩ := h.onto hr
  have := h.ord_at hi
  rw [he, Int.toNat_natCast] at this
  rw [this]
  constructor
  · intro h0
    obtain rfl : i = 0 := by omega
    exact he.symm
  · intro h0
    have := h.inj i 0 hi (by omega) (by omega)
    omega
theorem Rnk.zix (h : Rnk t r) : ∀ k, k ≤ t.length + 1 → zixk (ordr r) k = if gi r 0 < k then (gi r 0).toNat else 0
  | 0, _ => by
    have := h.low 0 (by omega)
    rw [if_neg (by omega)]; rfl
  | k + 1, hk => by
    have ih := h.zix k (by omega)
    have hz := h.ord_zero (row := k) (by omega)
    rw [zixk]
    by_cases he : gi (ordr r) k = 0
    · have := hz.1 he
      rw [if_pos he, if_pos (by omega)]
      omega
    · have : ¬ (k : Int) = gi r 0 := fun h2 => he (hz.2 h2)
      rw [if_neg he, ih]
      by_cases hc : gi r 0 < k
      · rw [if_pos hc, if_pos (by omega)]
      · rw [if_neg hc, if_neg (by omega)]
theorem Rnk.lst_len (h : Rnk t r) : ∀ k, k ≤ t.length + 1 → (lstk t (ordr r) k).length = if gi r 0 < k then k - 1 else k
  | 0, _ => by
    have := h.low 0 (by omega)
    rw [if_neg (by omega)]; rfl
  | k + 1, hk => by
    have ih := h.lst_len k (by omega)
    have hz := h.ord_zero (row := k) (by omega)
    have h0 := h.low 0 (by omega)
    rw [lstk]
    by_cases he : gi (ordr r) k = 0
    · have := hz.1 he
      rw [if_pos he, ih, if_neg (by omega), if_pos (by omega)]
      omega
    · have : ¬ (k : Int) = gi r 0 := fun h2 => he (hz.2 h2)
      rw [if_neg he, List.length_append, ih]
      by_cases hc : gi r 0 < k
      · rw [if_pos hc, if_pos (by omega)]; simp; omega
      · rw [if_neg hc, if_neg (by omega)]; simp
theorem lst_pre (t o : List Int) (k : Nat) : ∀ d, ∃ m, lstk t o (k + d) = lstk t o k ++ m
  | 0 => ⟨[], by simp⟩
  | d + 1 => by
    obtain ⟨m, hm⟩ := lst_pre t o k d
    rw [← Nat.add_assoc, lstk]
    split
    · exact ⟨m, hm⟩
    · exact ⟨m ++ [gi t (gi o (k + d) - 1).toNat], by rw [hm, List.append_assoc]⟩
theorem cnt_one (j : Nat) : ∀ n, (List.range n).countP (fun i => decide (i = j)) = if j < n then 1 else 0
  | 0 => by simp
  | n + 1 => by
    rw [List.range_succ, List.countP_append, cnt_one j n, List.countP_singleton]
    by_cases h : n = j
    · subst h; simp
    · have h3 : decide (n = j) = false := decide_eq_false h
      rw [h3]
      by_cases h2 : j < n
      · simp [h2]; omega
      · simp [h2]; omega
theorem Rnk.lst_cnt (h : Rnk t r) (p : Int → Bool) : ∀ k, k ≤ t.length + 1 → (lstk t (ordr r) k).countP p = (List.range t.length).countP fun i => p (gi t i) && decide (gi r (i + 1) < k)
  | 0, _ => by
    rw [lstk, List.countP_nil]
    refine (List.countP_eq_zero.2 fun i hi => ?_).symm
    have hi := List.mem_range.1 hi
    have := h.low (i + 1) (by omega)
    simp; omega
  | k + 1, hk => by
    have ih := h.lst_cnt p k (by omega)
    obtain ⟨j, hj, he⟩ := h.onto (row := k) (by omega)
    have ho := h.ord_at hj
    rw [he, Int.toNat_natCast] at ho
    rw [lstk, ho]
    rcases j with _ | j
    · rw [if_pos (show ((0 : Nat) : Int) = 0 from rfl), ih]
      refine List.countP_congr fun i hi => ?_
      have hi := List.mem_range.1 hi
      have hne : ¬ gi r (i + 1) = k := fun h2 => by
        have := h.inj (i + 1) 0 (by omega) (by omega) (by omega); omega
      simp only [Bool.and_eq_true, decide_eq_true_eq]
      exact and_congr_right fun _ => by omega
    · rw [if_neg (by omega), List.countP_append, ih, List.countP_singleton]
      have hsplit : (List.range t.length).countP (fun i => p (gi t i) && decide (gi r (i + 1) < ((k + 1 : Nat) : Int))) = (List.range t.length).countP (fun i => (p (gi t i) && decide (gi r (i + 1) < (k : Int))) || (p (gi t i) && decide (i = j))) := by
        refine List.countP_congr fun i hi => ?_
        have hi := List.mem_range.1 hi
        have hii : gi r (i + 1) = k ↔ i = j := by
          constructor
          · intro h2
            have := h.inj (i + 1) (j + 1) (by omega) hj (by omega); omega
          · intro h2; subst h2; exact he
        simp only [Bool.and_eq_true, Bool.or_eq_true, decide_eq_true_eq]
        rw [← hii]
        constructor
        · rintro ⟨h2, h3⟩
          by_cases e : gi r (i + 1) = k
          · exact .inr ⟨h2, e⟩
          · exact .inl ⟨h2, by omega⟩
        · rintro (⟨h2, h3⟩ | ⟨h2, h3⟩)
          · exact ⟨h2, by omega⟩
          · exact ⟨h2, by omega⟩
      rw [hsplit, countP_or]
      · congr 1
        have hj2 : (((j + 1 : Nat) : Int) - 1).toNat = j := by omega
        rw [hj2]
        have : (List.range t.length).countP (fun i => p (gi t i) && decide (i = j)) = (List.range t.length).countP (fun i => p (gi t j) && decide (i = j)) := by
          refine List.countP_congr fun i _ => ?_
          by_cases e : i = j
          · subst e; exact Iff.rfl
          · simp [e]
        rw [this]
        cases hp : p (gi t j)
        · simp
        · simp only [Bool.true_and, if_true]
          exact ((cnt_one j t.length).trans (if_pos (by omega))).symm
      · intro i hi h2
        have hi := List.mem_range.1 hi
        simp only [Bool.and_eq_true, decide_eq_true_eq] at h2
        have : ¬ i = j := fun e => by subst e; rw [he] at h2; omega
        simp [this]
theorem Rnk.lst_at (h : Rnk t r) {i : Nat} (h1 : 1 ≤ i) (hi : i ≤ t.length) : gi (lstk t (ordr r) (t.length + 1)) (colp (gi r 0).toNat (gi r i).toNat) = gi t (i - 1) ∧ (lstk t (ordr r) (t.length + 1)).take (colp (gi r 0).toNat (gi r i).toNat) = lstk t (ordr r) (gi r i).toNat := by
  have a0 := h.low i hi
  have a1 := h.high hi
  have b0 := h.low 0 (by omega)
  obtain ⟨k, hk⟩ : ∃ k, k = (gi r i).toNat := ⟨_, rfl⟩
  have hki : gi r i = k := by omega
  have ho := h.ord_at hi
  rw [← hk] at ho ⊢
  have hne : ¬ (k : Int) = gi r 0 := fun e => by
    have := h.inj i 0 hi (by omega) (by omega); omega
  have hlen := h.lst_len k (by omega)
  have hc : (lstk t (ordr r) k).length = colp (gi r 0).toNat k := by
    rw [hlen, colp]
    split <;> split <;> omega
  obtain ⟨m, hm⟩ := lst_pre t (ordr r) (k + 1) (t.length - k)
  have hm2 : lstk t (ordr r) (t.length + 1) = lstk t (ordr r) k ++ (gi t (i - 1) :: m) := by
    rw [show t.length + 1 = k + 1 + (t.length - k) by omega, hm, lstk, ho, if_neg (by omega), show ((i : Int) - 1).toNat = i - 1 by omega, List.append_assoc]
    rfl
  rw [hm2, ← hc]
  constructor
  · simp [gi]
  · simp
theorem Rnk.aft (hb : Bytes t) (h : Rnk t r) {i : Nat} (h1 : 1 ≤ i) (hi : i ≤ t.length) : aft (lstk t (ordr r) (t.length + 1)) (colp (gi r 0).toNat (gi r i).toNat) = gi r (i - 1) := by
  obtain ⟨e1, e2⟩ := h.lst_at h1 hi
  have a0 := h.low i hi
  have a1 := h.high hi
  have hg := hb _ (gi_mem t (i - 1) (by omega))
  rw [Proofs.YtkpbhdhkdonghaaGreat.aft, e1, e2, h.back (fun x hx => (hb x hx).1) h1 hi, lsn, eqn, Int.toNat_of_nonneg hg.1, h.lst_cnt _ _ (Nat.le_refl _), h.lst_cnt _ _ (by omega), countP_gi t]
  congr 1
  · congr 2
    refine List.countP_congr fun k hk => ?_
    have hk := List.mem_range.1 hk
    have := h.high (i := k + 1) (by omega)
    simp only [Bool.and_eq_true, decide_eq_true_eq]
    exact ⟨fun h2 => h2.1, fun h2 => ⟨h2, by omega⟩⟩
  · congr 1
    refine List.countP_congr fun k hk => ?_
    simp only [Bool.and_eq_true, decide_eq_true_eq]
    exact and_congr_right fun _ => by omega
end
theorem len_bwl {t : List Int} (hb : ∀ x ∈ t, 0 ≤ x) : (bwl t).length = t.length := by
  have h := rnk_ok hb
  have := h.low 0 (by omega)
  have := h.high (i := 0) (by omega)
  rw [bwl, h.lst_len _ (Nat.le_refl _), if_pos (by omega)]
  omega
theorem bwi_eq {t : List Int} (hb : ∀ x ∈ t, 0 ≤ x) : (bwi t : Int) = gi (rnk t) 0 := by
  have h := rnk_ok hb
  have := h.low 0 (by omega)
  have := h.high (i := 0) (by omega)
  rw [bwi, h.zix _ (Nat.le_refl _), if_pos (by omega)]
  omega
theorem bwi_bound {t : List Int} (hb : ∀ x ∈ t, 0 ≤ x) : bwi t ≤ t.length ∧ (t ≠ [] → 1 ≤ bwi t) := by
  have h := rnk_ok hb
  have he := bwi_eq hb
  have h1 := h.high (i := 0) (by omega)
  have h2 := h.low 0 (by omega)
  refine ⟨by omega, fun hn => ?_⟩
  have hl : 0 < t.length := List.length_pos_iff.2 hn
  have h3 := h.end hb
  rcases Nat.lt_or_ge 0 (bwi t) with h4 | h4
  · exact h4
  · have := h.inj 0 t.length (by omega) (Nat.le_refl _) (by omega)
    omega
theorem bw_valid {t : List Int} (hb : Bytes t) : wval (bwl t) (bwi t) t.length 0 = true := by
  have hb0 : ∀ x ∈ t, 0 ≤ x := fun x hx => (hb x hx).1
  have h := rnk_ok hb0
  have hi := bwi_eq hb0
  have h2 := h.low 0 (by omega)
  have hidx : bwi t = (gi (rnk t) 0).toNat := by omega
  have key : ∀ k, k ≤ t.length → wval (bwl t) (bwi t) k (gi (rnk t) k).toNat = true := by
    intro k
    induction k with
    | zero => intro _; rw [wval, hidx]; simp
    | succ k ih =>
      intro hk
      have h3 := h.low (k + 1) hk
      rw [wval, if_neg (fun e => by
        have := h.inj (k + 1) 0 hk (by omega) (by omega); omega), hidx, bwl, h.aft hb (by omega) hk]
      have := ih (by omega)
      rw [hidx, bwl] at this
      exact this
  have := key t.length (Nat.le_refl _)
  rw [h.end hb0] at this
  exact this
theorem lstk_map (f : Int → Int) (t o : List Int) : ∀ k, (∀ i, i < k → 0 ≤ gi o i ∧ gi o i ≤ t.length) → lstk (t.map f) o k = (lstk t o k).map f
  | 0, _ => rfl
  | k + 1, h => by
    have ih := lstk_map f t o k fun i hi => h i (by omega)
    have hk := h k (by omega)
    rw [lstk, lstk, ih]
    split
    · rfl
    · rw [List.map_append, List.map_singleton]
      congr 2
      have hlt : (gi o k - 1).toNat < t.length := by omega
      simp [gi, hlt] at hlt ⊢
      simp [hlt]
theorem bw_map (t : List Int) (f : Int → Int) (hf : ∀ a ∈ t, ∀ b ∈ t, (f a < f b ↔ a < b)) (h0 : ∀ a ∈ t, 0 ≤ a) (h1 : ∀ a ∈ t, 0 ≤ f a) : bwl (t.map f) = (bwl t).map f ∧ bwi (t.map f) = bwi t := by
  have hr := rnk_map t f hf h0 h1
  have h := rnk_ok h0
  refine ⟨?_, by rw [bwi, bwi, hr, List.length_map]⟩
  rw [bwl, bwl, hr, List.length_map]
  exact lstk_map f t _ _ fun i hi => h.ord_bound (by omega)
end Go.Proofs.YtkpbhdhkdonghaaGreat

namespace Go.Proofs.YtkpbhdhkdonghaaGreat
open Go Go.RowKit
theorem In.behind17 {w : World} {v : Value} {l : List Int} (h : In .u8 w v l) : ∀ W, Own w W [] [] → In .u8 W v l := fun W hW => h.below hW.below
set_option maxRecDepth 100000 in
set_option maxHeartbeats 2000000 in
theorem turned17 (v : Value) (l : List Int) (w : World) (hin : In .u8 w v l) (hn : l.length ≤ 1000000) : Calls Tryz.prog 123 #[v] w fun x w' => ∃ u, x = .returned u ∧ Below w.heap.size w w' := by
  have hm := Own.nil w
  have hv := hin.behind17
  obtain ⟨ad, cp, rfl, _⟩ := hv w hm
  have HC : Hid (∀ W, Own w W [] [] → ∀ k, k < l.length → ∃ A, ad = some A ∧ W.cell? (A.add k) = some (.int .u8 (gi l k))) := Lib.hid fun W h k hk => by
    obtain ⟨ad2, cp2, he, hc⟩ := hv W h
    cases he
    exact hc k hk
  obtain ⟨i1, hE1⟩ := el24
  have HB5 := Lib.hid hE1
  obtain ⟨i4, hE4⟩ := em22
  have HE := Lib.hid hE4
  have wl : IntKind.i64.wrap ((l.length : Int) - 1) = (l.length : Int) - 1 := IntWalk.i64_in _ (by omega)
  clear hE1 hE4 hin hv
  go_enter Tryz.func123, Tryz.ntmps123
  go_wp2
  go_loopw [3, 4] (fun z u wr => ∃ (k : Nat) (X : List (Nat × Array Value)) (a2 : Option Addr) (c2 : Nat) (xs : List Value), k ≤ l.length ∧ u = .int .i64 ((k : Int) - 1) ∧ z = .slice a2 (l.length - k) c2 ∧ Lies 1 X z (l.length - k) xs ∧ Own w wr (X ++ []) []) (fun _ u _ => (intOf u + 1).toNat)
  case atStart => exact ⟨l.length, [], none, 0, [], by omega, rfl, by rw [Nat.sub_self], by rw [Nat.sub_self]; exact Lies.nil 1, hm⟩
  case round =>
    clear hm
    obtain ⟨k, X, a2, c2, xs, hk, rfl, rfl, hX, hm⟩ := hrel
    have HX := Lib.hid hX
    clear hX
    rcases k with _ | k
    · have q5 : decide ((0 : Int) ≤ ((0 : Nat) : Int) - 1) = false := by decide
      go_wp2
      go_ret
      exact ⟨_, rfl, hm.below⟩
    · have q5 : decide ((0 : Int) ≤ ((k + 1 : Nat) : Int) - 1) = true := decide_eq_true (by omega)
      have wk : IntKind.i64.wrap (((k + 1 : Nat) : Int) - 1 - 1) = (k : Int) - 1 := by rw [IntWalk.i64_in _ (by omega)]; omega
      have ek : ((k + 1 : Nat) : Int) - 1 = (k : Int) := by omega
      rw [ek] at q5 wk ⊢
      have hkl : k < l.length := by omega
      obtain ⟨A, rfl, hA0⟩ := HC.out _ hm.behind k hkl
      have hA : ∀ W, Own w W (X ++ []) [] → W.cell? (A.add k) = some (.int .u8 (gi l k)) := fun W h => by
        obtain ⟨A2, he, h2⟩ := HC.out W h.behind k hkl
        cases he
        exact h2
      have en : l.length - (k + 1) + 1 = l.length - k := by omega
      clear hA0
      generalize gi l k = x at *
      generalize hN : l.length - (k + 1) = N at *
      go_wp2_with (first
          | (with_reducible refine gIa (t := 22) ?_; (refine wpList_run rfl (exec_indexAddr_sl rfl HB5.out rfl rfl rfl hkl) ?_))
          | (with_reducible refine gLd (t := 5) ?_; (refine wpList_run rfl (exec_loadaddr rfl rfl one5 ((hA _ hm))) ?_))
          | (refine list_eff rfl (eff_build1 hm rfl HB5.out (ev_tmp rfl) rfl ?_); clear hm; intro w gb hm)
          | (refine list_eff rfl (eff_appendX (A := [_]) (X := X) hm rfl HE.out (ev_tmp rfl) HX.out (ev_tmp rfl) (fun W h => From.one (h.row 0 rfl)) (one_lit1 rfl) (by omega) (by omega) (by omega) ?_); clear hm; intro X2 v2 w hX2 hm; simp only [List.cons_append, List.nil_append] at hm; replace hm := hm.dropRow; obtain ⟨ad2, c2, rfl⟩ := hX2.shape; have HX2 := Lib.hid hX2; clear hX2))
      rw [en] at HX2
      go_roundw
      case rel => exact ⟨k, X2, _, _, _, by omega, rfl, rfl, HX2.out, hm⟩
      case measure => simp [intOf]
set_option maxRecDepth 100000 in
set_option maxHeartbeats 4000000 in
theorem back17 (v : Value) (l : List Int) (index : Nat) (w0 w : World) (rs : List (Nat × Array Value)) (ss : List Sl) (hm : Own w0 w rs ss) (hv : ∀ W, Own w0 W rs ss → In .u8 W v l) (hb : Bytes l) (h1 : 1 ≤ index) (h2 : index ≤ l.length) (hn : l.length ≤ 1000000) : Calls Tryz.prog 76 #[v, .int .i64 index] w fun x w' => (∃ u, x = .returned (.tuple #[u, .int .i64 (if wval l index l.length 0 = true then 0 else 170)])) ∧ Own w0 w' rs ss := by
  have CA : Hid (∀ W, Own w0 W rs ss → Calls Tryz.prog 122 #[v] W (SlPosI w0 (tab l.length (aft l)) rs ss)) := Lib.hid fun W h => after17 v l w0 W rs ss h hv hb hn
  obtain ⟨ad, cp, rfl, _⟩ := hv w hm
  have HC : Hid (∀ W, Own w0 W rs ss → ∀ k, k < l.length → ∃ A, ad = some A ∧ W.cell? (A.add k) = some (.int .u8 (gi l k))) := Lib.hid fun W h k hk => by
    obtain ⟨ad2, cp2, he, hc⟩ := hv W h
    cases he
    exact hc k hk
  obtain ⟨i1, hE1⟩ := el24
  have HB5 := Lib.hid hE1
  obtain ⟨i2, hE2⟩ := em124
  have HE := Lib.hid hE2
  obtain ⟨i3, hE3⟩ := el39
  have HL := Lib.hid hE3
  obtain ⟨i4, hE4⟩ := em22
  have HE22 := Lib.hid hE4
  have HB := Lib.hid hb
  clear hE1 hE2 hE3 hE4 hb hv
  have q1 : decide ((index : Int) < 0) = false := decide_eq_false (by omega)
  have q2 : decide ((l.length : Int) < index) = false := decide_eq_false (by omega)
  have q3 : decide (l.length < index) = false := decide_eq_false (by omega)
  have q4 : ((index : Int) == 0) = false := by simp; omega
  have CT : Hid (∀ (W : World) (u : Value) (m : List Int), In .u8 W u m → m.length ≤ 1000000 → Calls Tryz.prog 123 #[u] W fun x w' => ∃ u, x = .returned u ∧ Below W.heap.size W w') := Lib.hid fun W u m h1 h2 => turned17 u m W h1 h2
  obtain ⟨o, ho⟩ : ∃ o, o = wval l index l.length 0 := ⟨_, rfl⟩
  rw [← ho]
  have HO := Lib.hid ho
  clear ho
  go_enter Tryz.func76, Tryz.ntmps76
  go_wp2_with (first
    | (go_at_call 122; have _t := hm; refine (CA.out _ hm).mono ?_; clear _t; clear hm; rintro e w ⟨X1, v1, rfl, hX1, hm⟩; rw [len_tab] at hX1; obtain ⟨g1, p1, c1, cells1, rfl, rfl, hc1, hs1, hl1, hcell1⟩ := hX1.pos (by omega)))
  have HG1 : Hid (∀ j, j < l.length → cells1[p1 + j]? = some (.int .i64 (aft l j))) := Lib.hid fun j hj => by
    rw [hcell1 j (by rw [length_vs, len_tab]; exact hj), get_vs _ _ j (by rw [len_tab]; exact hj), gi_tab _ hj]
  clear hX1 hs1 hl1 hcell1
  go_loopw [7, 8, 9] (fun z y u wr => ∃ (k r : Nat) (X : List (Nat × Array Value)) (a2 : Option Addr) (c2 : Nat) (m : List Int), k ≤ l.length ∧ r ≤ l.length ∧ m.length = l.length - k ∧ u = .int .i64 ((l.length - k : Nat) : Int) ∧ y = .int .i64 r ∧ z = .slice a2 (l.length - k) c2 ∧ o = wval l index k r ∧ Lies 1 X z (l.length - k) (vs .u8 m) ∧ Own w0 wr ((g1, cells1) :: (X ++ rs)) ss) (fun _ _ u _ => l.length - (intOf u).toNat)
  case atStart => exact ⟨l.length, 0, [], none, 0, [], by omega, by omega, by simp, by simp, rfl, by rw [Nat.sub_self], HO.out, by rw [Nat.sub_self]; exact Lies.nil 1, hm⟩
  case round =>
    clear hm
    obtain ⟨k, r, X, a2, c2, m, hk, hr, hml, rfl, rfl, rfl, ho, hX, hm⟩ := hrel
    have HX := Lib.hid hX
    have HML := Lib.hid hml
    clear hX hml
    rcases k with _ | k
    · have q5 : decide (((l.length - 0 : Nat) : Int) < (l.length : Int)) = false := decide_eq_false (by omega)
      rw [wval] at ho
      by_cases he : r = index
      · subst he
        subst ho
        have CT2 : Hid (∀ W, Own w0 W ((g1, cells1) :: (X ++ rs)) ss → Calls Tryz.prog 123 #[.slice a2 (l.length - 0) c2] W fun x w' => ∃ u, x = .returned u ∧ Below W.heap.size W w') := Lib.hid fun W h => CT.out W _ m (HX.out.inn (A := [_]) h) (by rw [HML.out]; omega)
        go_wp2_with (first
    | (go_at_call 123; have _t := hm; refine (CT2.out _ hm).mono ?_; clear _t; rintro e w1 ⟨u9, rfl, hb9⟩; replace hm := hm.call hb9; clear hb9))
        go_ret2
        exact ⟨⟨u9, by simp⟩, hm.dropRow.behind⟩
      · have q6 : ((r : Int) == index) = false := by simp; omega
        have q7 : ((r : Int) != index) = true := by simp; omega
        rw [decide_eq_false he] at ho
        subst ho
        clear he
        go_wp2
        go_ret2
        exact ⟨⟨.slice none 0 0, by simp⟩, hm.dropRow.behind⟩
    · have q5 : decide (((l.length - (k + 1) : Nat) : Int) < (l.length : Int)) = true := decide_eq_true (by omega)
      have wi : IntKind.i64.wrap (((l.length - (k + 1) : Nat) : Int) + 1) = ((l.length - k : Nat) : Int) := by rw [IntWalk.i64_in _ (by omega)]; omega
      have en : l.length - (k + 1) + 1 = l.length - k := by omega
      rw [wval] at ho
      by_cases he : r = index
      · rw [if_pos he] at ho
        subst ho
        subst he
        clear wi en
        go_wp2
        go_ret2
        exact ⟨⟨.slice none 0 0, by simp⟩, hm.dropRow.behind⟩
      · rw [if_neg he] at ho
        have q6 : ((r : Int) == index) = false := by simp; omega
        obtain ⟨p, hp⟩ : ∃ p, p = colp index r := ⟨_, rfl⟩
        have hpl : p < l.length := by rw [hp]; exact colp_lt h1 h2 hr he
        have hab := aft_bound HB.out p hpl
        rw [← hp] at ho
        obtain ⟨A, rfl, hA0⟩ := HC.out _ hm.dropRow.behind p hpl
        have hA : ∀ W, Own w0 W ((g1, cells1) :: (X ++ rs)) ss → W.cell? (A.add p) = some (.int .u8 (gi l p)) := fun W h => by
          obtain ⟨A2, he, h2⟩ := HC.out W h.dropRow.behind p hpl
          cases he
          exact h2
        have HG : Hid (cells1[p1 + p]? = some (.int .i64 ((aft l p).toNat : Nat))) := Lib.hid (by rw [HG1.out p hpl, Int.toNat_of_nonneg (by omega)])
        have hp1 : p < l.length := hpl
        have hra : (aft l p).toNat ≤ l.length := by omega
        have HN := Lib.hid ho
        clear hA0 hab ho
        generalize (aft l p).toNat = r2 at *
        generalize gi l p = x at *
        by_cases hlo : index < r
        · have hpr : r = p + 1 := by rw [hp, colp, if_pos hlo]; omega
          subst hpr
          have q8 : decide ((index : Int) < ((p + 1 : Nat) : Int)) = true := decide_eq_true (by omega)
          have q9 : decide (index < p + 1) = true := decide_eq_true hlo
          have w8 : IntKind.i64.wrap ((p : Int) + 1 - 1) = p := by rw [IntWalk.i64_in _ (by omega)]; omega
          clear hp he
          generalize hN : l.length - (k + 1) = N at *
          have hc9 : p < l.length := hp1
          go_wp2_with (first
              | (with_reducible refine gIa (t := 22) ?_; (refine wpList_run rfl (exec_indexAddr_sl rfl HB5.out rfl rfl rfl hpl) ?_))
              | (with_reducible refine gIa (t := 124) ?_; (refine wpList_run rfl (ix1 rfl HE.out rfl rfl rfl hc9) ?_))
              | (with_reducible refine gLd (t := 5) ?_; (refine wpList_run rfl (exec_loadaddr rfl rfl one5 (hA _ hm)) ?_))
              | (with_reducible refine gLd (t := 3) ?_; (refine wpList_run rfl (ld 0 hm rfl rfl rfl (ot rfl) HG.out) ?_))
              | (refine list_eff rfl (eff_build1 hm rfl HB5.out (ev_tmp rfl) rfl ?_); clear hm; intro w gb hm)
              | (refine list_eff rfl (eff_appendX (A := [_, _]) (X := X) hm rfl HE22.out (ev_tmp rfl) HX.out (ev_tmp rfl) (fun W h => From.one (h.row 0 rfl)) (one_lit1 rfl) (by omega) (by omega) (by omega) ?_); clear hm; intro X2 v2 w hX2 hm; simp only [List.cons_append, List.nil_append] at hm; replace hm := hm.dropRow; obtain ⟨ad2, c3, rfl⟩ := hX2.shape; have HX2 := Lib.hid hX2; clear hX2))
          have HX4 : Hid (Lies 1 X2 (.slice ad2 (N + 1) c3) (N + 1) (vs .u8 (m ++ [x]))) := Lib.hid (by rw [← vs_app]; exact HX2.out)
          clear HX2
          rw [en] at HX4
          try rw [en]
          go_roundw
          case rel => exact ⟨k, r2, X2, ad2, c3, m ++ [x], by omega, hra, by rw [List.length_append, HML.out, List.length_singleton]; omega, rfl, rfl, rfl, HN.out, HX4.out, hm⟩
          case measure => simp [intOf]; omega
        · have hpr : r = p := by rw [hp, colp, if_neg hlo]
          subst hpr
          have q8 : decide ((index : Int) < (r : Int)) = false := decide_eq_false (by omega)
          have q9 : decide (index < r) = false := decide_eq_false hlo
          clear hp he
          generalize hN : l.length - (k + 1) = N at *
          have hc9 : r < l.length := hp1
          go_wp2_with (first
              | (with_reducible refine gIa (t := 22) ?_; (refine wpList_run rfl (exec_indexAddr_sl rfl HB5.out rfl rfl rfl hpl) ?_))
              | (with_reducible refine gIa (t := 124) ?_; (refine wpList_run rfl (ix1 rfl HE.out rfl rfl rfl hc9) ?_))
              | (with_reducible refine gLd (t := 5) ?_; (refine wpList_run rfl (exec_loadaddr rfl rfl one5 (hA _ hm)) ?_))
              | (with_reducible refine gLd (t := 3) ?_; (refine wpList_run rfl (ld 0 hm rfl rfl rfl (ot rfl) HG.out) ?_))
              | (refine list_eff rfl (eff_build1 hm rfl HB5.out (ev_tmp rfl) rfl ?_); clear hm; intro w gb hm)
              | (refine list_eff rfl (eff_appendX (A := [_, _]) (X := X) hm rfl HE22.out (ev_tmp rfl) HX.out (ev_tmp rfl) (fun W h => From.one (h.row 0 rfl)) (one_lit1 rfl) (by omega) (by omega) (by omega) ?_); clear hm; intro X2 v2 w hX2 hm; simp only [List.cons_append, List.nil_append] at hm; replace hm := hm.dropRow; obtain ⟨ad2, c3, rfl⟩ := hX2.shape; have HX2 := Lib.hid hX2; clear hX2))
          have HX4 : Hid (Lies 1 X2 (.slice ad2 (N + 1) c3) (N + 1) (vs .u8 (m ++ [x]))) := Lib.hid (by rw [← vs_app]; exact HX2.out)
          clear HX2
          rw [en] at HX4
          try rw [en]
          go_roundw
          case rel => exact ⟨k, r2, X2, ad2, c3, m ++ [x], by omega, hra, by rw [List.length_append, HML.out, List.length_singleton]; omega, rfl, rfl, rfl, HN.out, HX4.out, hm⟩
          case measure => simp [intOf]; omega
end Go.Proofs.YtkpbhdhkdonghaaGreat
