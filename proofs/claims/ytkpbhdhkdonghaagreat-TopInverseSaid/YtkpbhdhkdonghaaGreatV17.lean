/-
  Part 17 of the proof.
-/
import Derived.OwnWalk
import Derived.Test.YtkpbhdhkdonghaaGreatV12
import Derived.Test.YtkpbhdhkdonghaaGreatV13
import Derived.Test.YtkpbhdhkdonghaaGreatV14
import Derived.Test.YtkpbhdhkdonghaaGreatV15
import Derived.Test.YtkpbhdhkdonghaaGreatV16
set_option linter.all false
namespace Go.Proofs.YtkpbhdhkdonghaaGreat
open Go Go.RowKit
def stw (l : List Int) (p : Nat) (v : Int) : Nat → List Int
  | 0 => l
  | k + 1 => (stw l p v k).set (p + k) (v / 2 ^ (8 * k) % 256)
theorem len_stw (l : List Int) (p : Nat) (v : Int) : ∀ k, (stw l p v k).length = l.length
  | 0 => rfl
  | k + 1 => by rw [stw, List.length_set, len_stw l p v k]
theorem gi_stw (l : List Int) (p : Nat) (v : Int) (i : Nat) : ∀ k, p + k ≤ l.length → gi (stw l p v k) i = if p ≤ i ∧ i < p + k then v / 2 ^ (8 * (i - p)) % 256 else gi l i
  | 0, _ => by rw [stw, if_neg (by omega)]
  | k + 1, h => by
    rw [stw, gi_put (by rw [len_stw]; omega), gi_stw l p v i k (by omega)]
    by_cases e : i = p + k
    · rw [if_pos e, if_pos (by omega), show i - p = k by omega]
    · rw [if_neg e]
      by_cases e2 : p ≤ i ∧ i < p + k
      · rw [if_pos e2, if_pos (by omega)]
      · rw [if_neg e2, if_neg (by omega)]
theorem w32_congr {l m : List Int} {p : Nat} : ∀ k, (∀ i, p ≤ i → i < p + k → gi l i = gi m i) → w32 l p k = w32 m p k
  | 0, _ => rfl
  | k + 1, h => by rw [w32, w32, w32_congr k (fun i h1 h2 => h i h1 (by omega)), h (p + k) (by omega) (by omega)]
theorem w32_stw {l : List Int} {p : Nat} {v : Int} (h : p + 4 ≤ l.length) (h0 : 0 ≤ v) (h1 : v < 4294967296) : w32 (stw l p v 4) p 4 = v := by
  simp only [w32]
  rw [gi_stw l p v _ 4 h, gi_stw l p v _ 4 h, gi_stw l p v _ 4 h, gi_stw l p v _ 4 h, if_pos (by omega), if_pos (by omega), if_pos (by omega), if_pos (by omega), show p + 0 - p = 0 by omega, show p + 1 - p = 1 by omega, show p + 2 - p = 2 by omega, show p + 3 - p = 3 by omega]
  simp
  omega
theorem w32_stw_ne {l : List Int} {p q : Nat} {v : Int} (h : p + 4 ≤ l.length) (hq : q + 4 ≤ p ∨ p + 4 ≤ q) : w32 (stw l p v 4) q 4 = w32 l q 4 :=
  w32_congr 4 fun i h1 h2 => by rw [gi_stw l p v i 4 h, if_neg (by omega)]
theorem stw_bytes {l : List Int} {p : Nat} {v : Int} (hb : Bytes l) : ∀ k, Bytes (stw l p v k)
  | 0 => hb
  | k + 1 => fun x hx => by
    rcases List.mem_or_eq_of_mem_set hx with h | rfl
    · exact stw_bytes hb k x h
    · omega
set_option maxRecDepth 100000 in
set_option maxHeartbeats 2000000 in
theorem setword_ok (ga gd a n i : Nat) (l : List Int) (v live peak : Int) (w0 w : World) (rs : List (Nat × Array Value)) (ss : List Sl) (ja jd : Nat) (hm : Own w0 w rs ss) (hja : rs[ja]? = some (ga, AR (.slice (some ⟨gd, 0, none⟩) l.length l.length) live peak)) (hjd : rs[jd]? = some (gd, B l)) (h1 : (a : Int) + n ≤ live) (h2 : live ≤ l.length) (h3 : l.length ≤ 1048576) (h4 : 4 * i + 4 ≤ n) (v0 : 0 ≤ v) (v1 : v < 4294967296) (hne : ja ≠ jd) : Calls Tryz.prog 68 #[.pointer (some ⟨ga, 0, none⟩), .agg (SP a n), .int .i64 i, .int .u32 v] w fun e w' => (e = .returned (.bool true)) ∧ Own w0 w' (rs.set jd (gd, B (stw l (a + 4 * i) v 4))) ss := by
  have CP : Hid (∀ W, RowIs W ga (AR (.slice (some ⟨gd, 0, none⟩) l.length l.length) live peak) → Calls Tryz.prog 117 #[.pointer (some ⟨ga, 0, none⟩), .agg (SP a n), .int .i64 i] W fun e w' => (e = .returned (.slice (some ⟨gd, a + 4 * i, none⟩) 4 4)) ∧ Below W.heap.size W w') := Lib.hid fun W h => aword_ok ga gd a n i l live peak W h h1 h2 h3 h4
  have hjl := (List.getElem?_eq_some_iff.1 hjd).1
  have HS : Hid (∀ k, k < 4 → (B (stw l (a + 4 * i) v k)).setIfInBounds (a + 4 * i + k) (.int .u8 (v / 2 ^ (8 * k) % 256)) = B (stw l (a + 4 * i) v (k + 1))) := Lib.hid fun k hk => by rw [set_B]; rfl
  have HZ : Hid (∀ k, k < 4 → a + 4 * i + k < (B (stw l (a + 4 * i) v k)).size) := Lib.hid fun k hk => by rw [size_B, len_stw]; omega
  have hse : rs.set jd (gd, B l) = rs := set_self rs jd _ hjd
  have HSE := Lib.hid hse
  have HJ : Hid (∀ (cs : Array Value) (x : Nat × Array Value), (x :: rs.set jd (gd, cs))[jd + 1]? = some (gd, cs)) := Lib.hid fun cs x => by simp [hjl]
  obtain ⟨i5, hE⟩ := em22
  have HE := Lib.hid hE
  have HA := Lib.hid hja
  clear h1 h2 h3 h4 hE hja hjd hjl hse
  generalize a + 4 * i = p at *
  go_enter Tryz.func68, Tryz.ntmps68
  go_wp2_with (first
    | (go_at_call 117; have _t := hm; refine (CP.out _ (hm.row (ja + 1) HA.out)).mono ?_; rintro e w1 ⟨rfl, hb⟩; replace hm := hm.call hb; clear hb _t)
    | (with_reducible refine gBx ?_; (refine list_eff rfl (eff_box hm rfl rfl ?_); clear hm; intro w g hm))
    | (with_reducible refine gLd (t := 50) ?_; (refine wpList_run rfl (lda 0 hm rfl rfl rfl (aggSP _ _)) ?_)))
  rw [← HSE.out, show l = stw l p v 0 from rfl] at hm
  go_loopw [17] (fun u wr => ∃ k : Nat, k ≤ 4 ∧ u = .int .i64 k ∧ Own w0 wr ((g, SP a n) :: rs.set jd (gd, B (stw l p v k))) ss) (fun u _ => 4 - (intOf u).toNat)
  case atStart => exact ⟨0, by omega, rfl, hm⟩
  case round =>
    clear hm
    obtain ⟨k, hk, rfl, hm⟩ := hrel
    have hc : k = 0 ∨ k = 1 ∨ k = 2 ∨ k = 3 ∨ k = 4 := by omega
    clear hk
    rcases hc with rfl | rfl | rfl | rfl | rfl
    · have hs := HS.out 0 (by decide)
      have hz := HZ.out 0 (by decide)
      have hj := HJ.out (B (stw l p v 0)) (g, SP a n)
      have HS1 := Lib.hid hs
      have HS2 : Hid ((B (stw l p v 0)).setIfInBounds (p + 0) (.int .u8 (v % 256)) = B (stw l p v 1)) := Lib.hid (by simpa using hs)
      have HS4 : Hid ((B (stw l p v 0)).setIfInBounds (p + 0) (.int .u8 (v % 256)) = B (stw l p v 1)) := Lib.hid (by exact HS2.out)
      have hlt : 0 < 4 := by decide
      have hd : v / 1 / 1 = v / 2 ^ (8 * 0) := by simp
      clear hs
      generalize stw l p v 0 = l1 at *
      generalize hl2 : stw l p v 1 = l2 at *
      go_wp2_with (first
          | (with_reducible refine gIa ?_; (refine wpList_run rfl (ix1 (k := 0) rfl HE.out rfl rfl rfl hlt) ?_))
          | (with_reducible refine gSt (t := 5) ?_; (refine list_eff rfl (eff_cell (off := p + 0) (jd + 1) hm rfl rfl (ev_tmp rfl) hj (ot rfl) hz rfl rfl (by first | exact HS2.out | exact HS1.out | exact HS4.out) ?_); clear hm; intro w hm; simp only [List.set_cons_succ, List.set_set] at hm)))
      go_roundw
      case rel => exact ⟨1, by omega, rfl, by rw [hl2]; exact hm⟩
      case measure => simp [intOf]
    · have hs := HS.out 1 (by decide)
      have hz := HZ.out 1 (by decide)
      have hj := HJ.out (B (stw l p v 1)) (g, SP a n)
      have HS1 := Lib.hid hs
      have HS2 : Hid ((B (stw l p v 1)).setIfInBounds (p + 1) (.int .u8 (v / 256 % 256)) = B (stw l p v 2)) := Lib.hid (by simpa using hs)
      have HS4 : Hid ((B (stw l p v 1)).setIfInBounds (p + 1) (.int .u8 (v / 256 % 256)) = B (stw l p v 2)) := Lib.hid (by exact HS2.out)
      have hlt : 1 < 4 := by decide
      have hd : v / 256 / 1 = v / 2 ^ (8 * 1) := by simp
      clear hs
      generalize stw l p v 1 = l1 at *
      generalize hl2 : stw l p v 2 = l2 at *
      go_wp2_with (first
          | (with_reducible refine gIa ?_; (refine wpList_run rfl (ix1 (k := 1) rfl HE.out rfl rfl rfl hlt) ?_))
          | (with_reducible refine gSt (t := 5) ?_; (refine list_eff rfl (eff_cell (off := p + 1) (jd + 1) hm rfl rfl (ev_tmp rfl) hj (ot rfl) hz rfl rfl (by first | exact HS2.out | exact HS1.out | exact HS4.out) ?_); clear hm; intro w hm; simp only [List.set_cons_succ, List.set_set] at hm)))
      go_roundw
      case rel => exact ⟨2, by omega, rfl, by rw [hl2]; exact hm⟩
      case measure => simp [intOf]
    · have hs := HS.out 2 (by decide)
      have hz := HZ.out 2 (by decide)
      have hj := HJ.out (B (stw l p v 2)) (g, SP a n)
      have HS1 := Lib.hid hs
      have HS2 : Hid ((B (stw l p v 2)).setIfInBounds (p + 2) (.int .u8 (v / 65536 % 256)) = B (stw l p v 3)) := Lib.hid (by simpa using hs)
      have HS4 : Hid ((B (stw l p v 2)).setIfInBounds (p + 2) (.int .u8 (v / 65536 % 256)) = B (stw l p v 3)) := Lib.hid (by exact HS2.out)
      have hlt : 2 < 4 := by decide
      have hd : v / 65536 / 1 = v / 2 ^ (8 * 2) := by simp
      clear hs
      generalize stw l p v 2 = l1 at *
      generalize hl2 : stw l p v 3 = l2 at *
      go_wp2_with (first
          | (with_reducible refine gIa ?_; (refine wpList_run rfl (ix1 (k := 2) rfl HE.out rfl rfl rfl hlt) ?_))
          | (with_reducible refine gSt (t := 5) ?_; (refine list_eff rfl (eff_cell (off := p + 2) (jd + 1) hm rfl rfl (ev_tmp rfl) hj (ot rfl) hz rfl rfl (by first | exact HS2.out | exact HS1.out | exact HS4.out) ?_); clear hm; intro w hm; simp only [List.set_cons_succ, List.set_set] at hm)))
      go_roundw
      case rel => exact ⟨3, by omega, rfl, by rw [hl2]; exact hm⟩
      case measure => simp [intOf]
    · have hs := HS.out 3 (by decide)
      have hz := HZ.out 3 (by decide)
      have hj := HJ.out (B (stw l p v 3)) (g, SP a n)
      have HS1 := Lib.hid hs
      have HS2 : Hid ((B (stw l p v 3)).setIfInBounds (p + 3) (.int .u8 (v / 16777216 % 256)) = B (stw l p v 4)) := Lib.hid (by simpa using hs)
      have HS4 : Hid ((B (stw l p v 3)).setIfInBounds (p + 3) (.int .u8 (v / 16777216)) = B (stw l p v 4)) := Lib.hid (by have h := HS2.out; rw [show v / 16777216 % 256 = v / 16777216 by omega] at h; exact h)
      have hlt : 3 < 4 := by decide
      have hd : v / 16777216 / 1 = v / 2 ^ (8 * 3) := by simp
      clear hs
      generalize stw l p v 3 = l1 at *
      generalize hl2 : stw l p v 4 = l2 at *
      go_wp2_with (first
          | (with_reducible refine gIa ?_; (refine wpList_run rfl (ix1 (k := 3) rfl HE.out rfl rfl rfl hlt) ?_))
          | (with_reducible refine gSt (t := 5) ?_; (refine list_eff rfl (eff_cell (off := p + 3) (jd + 1) hm rfl rfl (ev_tmp rfl) hj (ot rfl) hz rfl rfl (by first | exact HS2.out | exact HS1.out | exact HS4.out) ?_); clear hm; intro w hm; simp only [List.set_cons_succ, List.set_set] at hm)))
      go_roundw
      case rel => exact ⟨4, by omega, rfl, by rw [hl2]; exact hm⟩
      case measure => simp [intOf]
    · go_wp2_with (first
          | (with_reducible refine gBo ?_; (refine wpList_run rfl (exec_neqnil rfl rfl rfl) ?_)))
      go_ret
      exact ⟨rfl, hm.dropRow⟩
end Go.Proofs.YtkpbhdhkdonghaaGreat

namespace Go.Proofs.YtkpbhdhkdonghaaGreat
open Go Go.RowKit
def colOf (l : List Int) (a n : Nat) : List Int := seg l a (a + n)
theorem gi_col {l : List Int} {a n i : Nat} (h : a + n ≤ l.length) (hi : i < n) : gi (colOf l a n) i = gi l (a + i) := by
  simp only [colOf, seg, gi, List.getD]
  rw [List.getElem?_drop, List.getElem?_take_of_lt (by omega)]
theorem len_col {l : List Int} {a n : Nat} (h : a + n ≤ l.length) : (colOf l a n).length = n := by simp [colOf, seg]; omega
theorem col_bytes {l : List Int} {a n : Nat} (hb : Bytes l) : Bytes (colOf l a n) := fun x hx => hb x (List.mem_of_mem_take (List.mem_of_mem_drop hx))
theorem col_congr {l m : List Int} {a n : Nat} (hl : l.length = m.length) (h : a + n ≤ l.length) (he : ∀ i, a ≤ i → i < a + n → gi l i = gi m i) : colOf l a n = colOf m a n := by
  apply List.ext_getElem (by rw [len_col h, len_col (by omega)])
  intro i h1 h2
  rw [len_col h] at h1
  rw [← gi_eq _ i h2, ← gi_eq _ i (by rw [len_col h]; exact h1), gi_col h h1, gi_col (by omega) h1]
  exact he _ (by omega) (by omega)
structure Marks (col : List Int) (l l2 : List Int) (b d q p : Nat) : Prop where
  len : l2.length = l.length
  byt : Bytes l2
  out : ∀ i, i < b → gi l2 i = gi l i
  word : ∀ j c, c < 256 → (j < q ∨ j = q ∧ c < p) → w32 l2 (b + 4 * (256 * j + c)) 4 = eqn (col.take ((j + 1) * d)) c
theorem Marks.set {col l l2 : List Int} {b d q p : Nat} (h : Marks col l l2 b d q p) (hp : p < 256) (hf : b + 4 * (256 * q + p) + 4 ≤ l.length) {v : Int} (hv : v = eqn (col.take ((q + 1) * d)) p) (v1 : v < 4294967296) : Marks col l (stw l2 (b + 4 * (256 * q + p)) v 4) b d q (p + 1) := by
  have hl := h.len
  refine ⟨by rw [len_stw, hl], stw_bytes h.byt 4, fun i hi => ?_, fun j c hc hjc => ?_⟩
  · rw [gi_stw _ _ _ _ 4 (by omega), if_neg (by omega), h.out i hi]
  · by_cases e : j = q ∧ c = p
    · obtain ⟨rfl, rfl⟩ := e
      rw [w32_stw (by omega) (by rw [hv]; exact (eqn_bound _ _).1) v1, hv]
    · rw [w32_stw_ne (by omega) (by omega)]
      exact h.word j c hc (by omega)
theorem Marks.up {col l l2 : List Int} {b d q : Nat} (h : Marks col l l2 b d q 256) : Marks col l l2 b d (q + 1) 0 :=
  ⟨h.len, h.byt, h.out, fun j c hc hjc => h.word j c hc (by omega)⟩
theorem Marks.zero (col l : List Int) (hb : Bytes l) (b d : Nat) : Marks col l l b d 0 0 := ⟨rfl, hb, fun _ _ => rfl, fun j c _ h => by omega⟩
end Go.Proofs.YtkpbhdhkdonghaaGreat

namespace Go.Proofs.YtkpbhdhkdonghaaGreat
open Go Go.RowKit
theorem exec_mul {P : Program} {w : World} {o : Oper} {a : Act} {x y : Operand} (hu : P.underlying 3 = some (.int .i64)) (ho : o.op = .binOp .mul 3 x y 3) {u v z : Int} (hx : a.eval x = .int .i64 u) (hy : a.eval y = .int .i64 v) (hw : IntKind.i64.wrap (u * v) = z) : (execOp a.eval o).run P w = .ok (.value (.int .i64 z)) w := by
  unfold execOp
  simp [ho, hx, hy, eqGuard, binOp, Op.intArith, Result.andThen, hw]
set_option maxRecDepth 100000 in
set_option maxHeartbeats 4000000 in
theorem make_any (ga gd a n b m d : Nat) (l : List Int) (live peak : Int) (w0 w : World) (rs : List (Nat × Array Value)) (ss : List Sl) (hm : Own w0 w ((ga, AR (.slice (some ⟨gd, 0, none⟩) l.length l.length) live peak) :: (gd, B l) :: rs) ss) (hb : Bytes l) (h : RkOk live a n b m d) (h2 : live ≤ l.length) (h3 : l.length ≤ 1048576) : Calls Tryz.prog 69 #[.pointer (some ⟨ga, 0, none⟩), .agg (SP a n), .agg (SP b m), .int .i64 d] w fun e w' => (e = .returned (.int .i64 0)) ∧ ∃ l2, Marks (colOf l a n) l l2 b d (n / d) 0 ∧ Own w0 w' ((ga, AR (.slice (some ⟨gd, 0, none⟩) l.length l.length) live peak) :: (gd, B l2) :: rs) ss := by
  have CV : Hid (∀ W, RowIs W ga (AR (.slice (some ⟨gd, 0, none⟩) l.length l.length) live peak) → Calls Tryz.prog 118 #[.pointer (some ⟨ga, 0, none⟩), .agg (SP a n), .agg (SP b m), .int .i64 d] W fun e w' => (e = .returned (.bool true)) ∧ Below W.heap.size W w') := Lib.hid fun W hr => rvalid_ok ga _ live peak a n b m d h W hr
  obtain ⟨n1, n2, d1, d2, ap, fit, big, lim⟩ := h
  have hcl : (colOf l a n).length = n := len_col (by omega)
  obtain ⟨col, hcol⟩ : ∃ col, col = colOf l a n := ⟨_, rfl⟩
  have hcb : Bytes col := by rw [hcol]; exact col_bytes hb
  rw [← hcol] at hcl ⊢
  obtain ⟨q, hq⟩ : ∃ q : Nat, q = n / d := ⟨_, rfl⟩
  rw [← hq] at big ⊢
  obtain ⟨t, ht⟩ : ∃ t : Nat, t = q * d := ⟨_, rfl⟩
  have htn : t ≤ n := by rw [ht, hq]; exact Nat.div_mul_le_self n d
  have e1 : (n : Int).tdiv d = (q : Int) := by rw [hq]; rfl
  have e2 : (n : Int) / d = (q : Int) := by rw [hq]; rfl
  have hqn : q ≤ n := by rw [hq]; exact Nat.div_le_self n d
  have q0 : ((d : Int) == 0) = false := by simp; omega
  have q0b : (d : Int) ≠ 0 := by omega
  have w1 : IntKind.i64.wrap (q : Int) = (q : Int) := IntWalk.i64_in _ (by omega)
  have HW2 : Hid (IntKind.i64.wrap ((q : Int) * (d : Int)) = (t : Int)) := Lib.hid (by rw [show (q : Int) * (d : Int) = ((q * d : Nat) : Int) by push_cast; rfl, ← ht]; exact IntWalk.i64_in _ (by omega))
  have HT := Lib.hid ht
  clear ht
  have HCOL := Lib.hid hcol
  have HQ := Lib.hid hq
  have HCB := Lib.hid hcb
  have HL := Lib.hid hcl
  clear hcol hcb hq hcl
  go_enter Tryz.func69, Tryz.ntmps69
  go_wp2_with (first
    | (go_at_call 118; have _t := hm; refine (CV.out _ (hm.row 2 rfl)).mono ?_; rintro e w1 ⟨rfl, hb⟩; replace hm := hm.call hb; clear hb _t)
    | (with_reducible refine gBx ?_; (refine list_eff rfl (eff_box hm rfl rfl ?_); clear hm; first | (have _t := g1; intro w g2 hm) | intro w g1 hm))
    | (with_reducible refine gAl (t := 115) ?_; (refine list_eff rfl (eff_alloc hm rfl zrI256 ?_); clear hm; intro w g9 hm))
    | (with_reducible refine gBo ?_; (refine wpList_run rfl (exec_mul Tryz.underlying3 rfl rfl rfl HW2.out) ?_))
    | (with_reducible refine gLd (t := 3) ?_; (first | (refine wpList_run rfl (ld 0 hm rfl rfl rfl (ot rfl) (by first | exact (SP0 _ _) | exact (SP1 _ _))) ?_) | (refine wpList_run rfl (ld 1 hm rfl rfl rfl (ot rfl) (by first | exact (SP0 _ _) | exact (SP1 _ _))) ?_) | (refine wpList_run rfl (ld 2 hm rfl rfl rfl (ot rfl) (by first | exact (SP0 _ _) | exact (SP1 _ _))) ?_)))
    | (with_reducible refine gLd (t := 50) ?_; (first | (refine wpList_run rfl (lda 0 hm rfl rfl rfl (aggSP _ _)) ?_) | (refine wpList_run rfl (lda 1 hm rfl rfl rfl (aggSP _ _)) ?_) | (refine wpList_run rfl (lda 2 hm rfl rfl rfl (aggSP _ _)) ?_))))
  have hm0 : Own w0 w ((g9, J .i64 (tab 256 (eqn (col.take 0)))) :: (g2, SP b m) :: (g1, SP a n) :: (ga, AR (.slice (some ⟨gd, 0, none⟩) l.length l.length) live peak) :: (gd, B l) :: rs) ss := by
    rw [tab_congr (f := eqn (col.take 0)) (g := fun _ => 0) (fun i _ => by simp [eqn])]
    exact hm
  clear hm
  have hm := hm0
  clear hm0
  have hz := Marks.zero col l hb b d
  clear hb
  go_loopw [28] (fun u wr => ∃ (k : Nat) (l2 : List Int), k ≤ t ∧ u = .int .i64 k ∧ Marks col l l2 b d (k / d) 0 ∧ Own w0 wr ((g9, J .i64 (tab 256 (eqn (col.take k)))) :: (g2, SP b m) :: (g1, SP a n) :: (ga, AR (.slice (some ⟨gd, 0, none⟩) l.length l.length) live peak) :: (gd, B l2) :: rs) ss) (fun u _ => t - (intOf u).toNat)
  case atStart => exact ⟨0, l, by omega, rfl, by rw [Nat.zero_div]; exact hz, hm⟩
  case round =>
    clear hm hz
    obtain ⟨k, l2, hk, rfl, hM, hm⟩ := hrel
    by_cases hlt : k < t
    · have hkn : k < n := by omega
      have hl2 := hM.len
      have hcg : gi l2 (a + k) = gi col k := by rw [HCOL.out, gi_col (by omega) hkn, hM.out _ (by omega)]
      have hs := HCB.out (gi col k) (by rw [gi_eq col k (by rw [HL.out]; exact hkn)]; exact List.getElem_mem _)
      obtain ⟨c, hc⟩ := Int.eq_ofNat_of_zero_le hs.1
      have hc1 : c < 256 := by omega
      have CB : Hid (∀ W, RowIs W ga (AR (.slice (some ⟨gd, 0, none⟩) l.length l.length) live peak) → RowIs W gd (B l2) → Calls Tryz.prog 116 #[.pointer (some ⟨ga, 0, none⟩), .agg (SP a n), .int .i64 k] W fun e w' => (e = .returned (.tuple #[.int .u8 c, .bool true])) ∧ Below W.heap.size W w') := Lib.hid fun W h3 h4 => by
        have := byte_ok ga gd a n k l2 live peak W (by rw [hl2]; exact h3) h4 (by omega) (by omega) (by omega) hkn
        rwa [hcg, hc] at this
      have hbd := eqn_bound (col.take k) c
      have hlt2 := List.length_take_le' k col
      rw [HL.out] at hlt2
      have w3 : IntKind.i64.wrap (eqn (col.take k) c + 1) = eqn (col.take k) c + 1 := IntWalk.i64_in _ (by omega)
      have HG := Lib.hid (at_tab .i64 (eqn (col.take k)) hc1)
      have HP := Lib.hid (J_tab .i64 (n := 256) (eqn (col.take k)) (eqn (col.take (k + 1))) c (eqn (col.take k) c + 1) (fun j _ => by
        rw [eqn_snoc col k (by rw [HL.out]; exact hkn), hc]
        by_cases e : j = c
        · subst e; simp
        · rw [if_neg e, if_neg (by omega), Int.add_zero]))
      have HSZ : Hid (c < (J .i64 (tab 256 (eqn (col.take k)))).size) := Lib.hid (by rw [size_J, len_tab]; exact hc1)
      have HM := Lib.hid hM
      have hbd2 : ∀ j, 0 ≤ eqn (col.take (k + 1)) j ∧ eqn (col.take (k + 1)) j < 4294967296 := fun j => by
        have h5 := eqn_bound (col.take (k + 1)) j
        have h6 := List.length_take_le' (k + 1) col
        rw [HL.out] at h6
        omega
      have HBD := Lib.hid hbd2
      have HAG := Lib.hid (ag115 (eqn (col.take (k + 1))))
      have HAT : Hid (∀ p, p < 256 → (J .i64 (tab 256 (eqn (col.take (k + 1)))))[p]? = some (.int .i64 (eqn (col.take (k + 1)) p))) := Lib.hid fun p hp => at_tab .i64 _ hp
      obtain ⟨r, hr⟩ : ∃ r : Nat, r = (k + 1) % d := ⟨_, rfl⟩
      have e6 : ((k : Int) + 1) % (d : Int) = (r : Int) := by rw [hr]; push_cast; rfl
      have e7 : ((k : Int) + 1).tmod (d : Int) = (r : Int) := by rw [hr]; rfl
      have w4 : IntKind.i64.wrap (r : Int) = (r : Int) := IntWalk.i64_in _ (by have := Nat.mod_lt (k + 1) (show 0 < d by omega); omega)
      clear hs hc hbd hlt2 hcg hM hbd2
      generalize eqn (col.take k) c = y at *
      generalize hT1 : tab 256 (eqn (col.take k)) = T1 at *
      generalize hT2 : tab 256 (eqn (col.take (k + 1))) = T2 at *
      by_cases hr0 : r = 0
      · have hr1 : ((r : Int) != 0) = false := by simp; omega
        have hr2 : ((r : Int) == 0) = true := by simp; omega
        obtain ⟨q', hq'⟩ : ∃ q' : Nat, q' = k / d := ⟨_, rfl⟩
        have hq1 : (k + 1) / d = q' + 1 := by rw [Nat.succ_div, if_pos (Nat.dvd_of_mod_eq_zero (by rw [← hr, hr0])), hq']
        have hqd : (q' + 1) * d = k + 1 := by rw [← hq1]; exact Nat.div_mul_cancel (Nat.dvd_of_mod_eq_zero (by rw [← hr, hr0]))
        have hqq : q' < q := by
          have h8 : (q' + 1) * d ≤ q * d := by rw [hqd, ← HT.out]; exact hlt
          have h9 := Nat.le_of_mul_le_mul_right h8 (by omega)
          omega
        have e8 : ((k : Int) + 1) / (d : Int) = (q' : Int) + 1 := by rw [show ((k : Int) + 1) / (d : Int) = (((k + 1) / d : Nat) : Int) by push_cast; rfl, hq1]; push_cast; rfl
        have e9 : ((k : Int) + 1).tdiv (d : Int) = (q' : Int) + 1 := by rw [show ((k : Int) + 1).tdiv (d : Int) = (((k + 1) / d : Nat) : Int) by rfl, hq1]; push_cast; rfl
        have w5 : IntKind.i64.wrap ((q' : Int) + 1) = (q' : Int) + 1 := IntWalk.i64_in _ (by omega)
        have w6 : IntKind.i64.wrap ((q' : Int) + 1 - 1) = (q' : Int) := by rw [IntWalk.i64_in _ (by omega)]; omega
        have w7 : IntKind.i64.wrap ((q' : Int) * 256) = (q' : Int) * 256 := IntWalk.i64_in _ (by omega)
        have hMq := HM.out
        rw [← hq'] at hMq
        have CS : Hid (∀ (W : World) (l3 : List Int) (p : Nat), p < 256 → l3.length = l.length → Own w0 W ((g9, J .i64 T2) :: (g2, SP b m) :: (g1, SP a n) :: (ga, AR (.slice (some ⟨gd, 0, none⟩) l.length l.length) live peak) :: (gd, B l3) :: rs) ss → Calls Tryz.prog 68 #[.pointer (some ⟨ga, 0, none⟩), .agg (SP b m), .int .i64 ((q' : Int) * 256 + p), .int .u32 (eqn (col.take (k + 1)) p)] W fun e w' => (e = .returned (.bool true)) ∧ Own w0 w' ((g9, J .i64 T2) :: (g2, SP b m) :: (g1, SP a n) :: (ga, AR (.slice (some ⟨gd, 0, none⟩) l.length l.length) live peak) :: (gd, B (stw l3 (b + 4 * (256 * q' + p)) (eqn (col.take (k + 1)) p) 4)) :: rs) ss) := Lib.hid fun W l3 p hp hl3 hW => by
          have hx := setword_ok ga gd b m (256 * q' + p) l3 (eqn (col.take (k + 1)) p) live peak w0 W _ ss 3 4 hW (by rw [hl3]; rfl) rfl (by omega) (by omega) (by omega) (by omega) (HBD.out p).1 (HBD.out p).2 (by decide)
          rw [show (((256 * q' + p : Nat)) : Int) = (q' : Int) * 256 + p by push_cast; omega] at hx
          exact hx
        have HQD := Lib.hid hqd
        have HQ1 := Lib.hid hq1
        clear hr hr0 hq1 hq' hqd
        go_wp2_with (first
            | (go_at_call 116; have _t := hm; refine (CB.out _ (hm.row 3 rfl) (hm.row 4 rfl)).mono ?_; rintro e w1 ⟨rfl, hb⟩; replace hm := hm.call hb; clear hb _t)
            | (with_reducible refine gLd (t := 3) ?_; (refine wpList_run rfl (ld 0 hm rfl rfl rfl (ot rfl) HG.out) ?_))
            | (with_reducible refine gLd (t := 115) ?_; (refine wpList_run rfl (lda 0 hm rfl rfl rfl HAG.out) ?_))
            | (with_reducible refine gLd (t := 50) ?_; (refine wpList_run rfl (lda 2 hm rfl rfl rfl (aggSP _ _)) ?_))
            | (with_reducible refine gSt (t := 3) ?_; (refine list_eff rfl (eff_cell 0 hm rfl rfl (ev_tmp rfl) rfl (ot rfl) HSZ.out rfl rfl HP.out ?_); clear hm; intro w hm; try simp only [puts, List.cons_append, List.nil_append, List.set] at hm)))
        go_loopw [55] (fun u wr => ∃ (p : Nat) (l3 : List Int), p ≤ 256 ∧ u = .int .i64 p ∧ Marks col l l3 b d q' p ∧ Own w0 wr ((g9, J .i64 T2) :: (g2, SP b m) :: (g1, SP a n) :: (ga, AR (.slice (some ⟨gd, 0, none⟩) l.length l.length) live peak) :: (gd, B l3) :: rs) ss) (fun u _ => 256 - (intOf u).toNat)
        case atStart => exact ⟨0, l2, by omega, rfl, hMq, hm⟩
        case round =>
          clear hm hMq
          obtain ⟨p, l3, hp, rfl, hM3, hm⟩ := hrel
          by_cases hlt3 : p < 256
          · have hat := HAT.out p hlt3
            have hl3 := hM3.len
            have hbp := HBD.out p
            have w8 : IntKind.u32.wrap (eqn (col.take (k + 1)) p) = eqn (col.take (k + 1)) p := IntWalk.u32_in _ (by omega)
            have w9 : IntKind.i64.wrap ((q' : Int) * 256 + p) = (q' : Int) * 256 + p := IntWalk.i64_in _ (by omega)
            have HM4 : Hid (Marks col l (stw l3 (b + 4 * (256 * q' + p)) (eqn (col.take (k + 1)) p) 4) b d q' (p + 1)) := Lib.hid (hM3.set hlt3 (by omega) (by rw [HQD.out]) hbp.2)
            clear hM3 hbp
            go_wp2_with (first
                | (go_at_call 68; have _t := hm; refine (CS.out _ l3 p hlt3 hl3 hm).mono ?_; clear _t hm; rintro e w ⟨rfl, hm⟩)
                | (with_reducible refine gIx ?_; (refine wpList_run rfl (exec_index rfl rfl rfl Tryz.underlying115 one3 hlt3 hat) ?_))
                | (with_reducible refine gLd (t := 50) ?_; (refine wpList_run rfl (lda 1 hm rfl rfl rfl (aggSP _ _)) ?_)))
            go_roundw
            case rel => exact ⟨p + 1, _, by omega, by go_num, HM4.out, hm⟩
            case measure => simp [intOf]; omega
          · obtain rfl : p = 256 := by omega
            have HM4 := Lib.hid hM3.up
            clear hM3
            go_wp2
            go_roundw
            case rel => exact ⟨k + 1, l3, by omega, by go_num, by rw [HQ1.out]; exact HM4.out, by rw [hT2]; exact hm⟩
            case measure => simp [intOf]; omega
      · have hr1 : ((r : Int) != 0) = true := by simp; omega
        have hr2 : ((r : Int) == 0) = false := by simp; omega
        have HD2 : Hid ((k + 1) / d = k / d) := Lib.hid (by rw [Nat.succ_div, if_neg (fun h => hr0 (by rw [hr]; exact Nat.mod_eq_zero_of_dvd h)), Nat.add_zero])
        clear hr
        go_wp2_with (first
            | (go_at_call 116; have _t := hm; refine (CB.out _ (hm.row 3 rfl) (hm.row 4 rfl)).mono ?_; rintro e w1 ⟨rfl, hb⟩; replace hm := hm.call hb; clear hb _t)
            | (with_reducible refine gLd (t := 3) ?_; (refine wpList_run rfl (ld 0 hm rfl rfl rfl (ot rfl) HG.out) ?_))
            | (with_reducible refine gLd (t := 115) ?_; (refine wpList_run rfl (lda 0 hm rfl rfl rfl HAG.out) ?_))
            | (with_reducible refine gLd (t := 50) ?_; (refine wpList_run rfl (lda 2 hm rfl rfl rfl (aggSP _ _)) ?_))
            | (with_reducible refine gSt (t := 3) ?_; (refine list_eff rfl (eff_cell 0 hm rfl rfl (ev_tmp rfl) rfl (ot rfl) HSZ.out rfl rfl HP.out ?_); clear hm; intro w hm; try simp only [puts, List.cons_append, List.nil_append, List.set] at hm)))
        go_roundw
        case rel => exact ⟨k + 1, l2, by omega, by go_num, by rw [HD2.out]; exact HM.out, by rw [hT2]; exact hm⟩
        case measure => simp [intOf]; omega
    · obtain rfl : t = k := by omega
      have htq : t / d = q := by rw [HT.out]; exact Nat.mul_div_cancel q (by omega)
      rw [htq] at hM
      have HM := Lib.hid hM
      clear hM htq
      generalize tab 256 (eqn (col.take t)) = T1 at *
      go_wp2
      go_ret
      exact ⟨rfl, l2, HM.out, hm.dropRow.dropRow.dropRow⟩
end Go.Proofs.YtkpbhdhkdonghaaGreat

namespace Go.Proofs.YtkpbhdhkdonghaaGreat
open Go Go.RowKit
structure Sampled (l : List Int) (a n b d : Nat) : Prop where
  byt : Bytes l
  word : ∀ j c, c < 256 → j < n / d → w32 l (b + 4 * (256 * j + c)) 4 = eqn ((colOf l a n).take ((j + 1) * d)) c
theorem Marks.sampled {l l2 : List Int} {a n b d : Nat} (h : Marks (colOf l a n) l l2 b d (n / d) 0) (hf : a + n ≤ l.length) (hb : a + n ≤ b) : Sampled l2 a n b d ∧ colOf l2 a n = colOf l a n := by
  have he : colOf l2 a n = colOf l a n := col_congr h.len (by rw [h.len]; exact hf) (fun i _ h2 => h.out i (by omega))
  exact ⟨⟨h.byt, fun j c hc hj => by rw [he]; exact h.word j c hc (.inl hj)⟩, he⟩
set_option maxRecDepth 100000 in
set_option maxHeartbeats 4000000 in
theorem rank_any (ga gd a n b m d c place : Nat) (l : List Int) (live peak : Int) (w0 : World) (hr : RowIs w0 ga (AR (.slice (some ⟨gd, 0, none⟩) l.length l.length) live peak)) (hd : RowIs w0 gd (B l)) (hS : Sampled l a n b d) (h : RkOk live a n b m d) (h2 : live ≤ l.length) (h3 : l.length ≤ 1048576) (hc : c < 256) (hp : place ≤ n) : Calls Tryz.prog 70 #[.pointer (some ⟨ga, 0, none⟩), .agg (SP a n), .agg (SP b m), .int .i64 d, .int .u8 c, .int .i64 place] w0 fun e w' => (e = .returned (.tuple #[.int .i64 (eqn ((colOf l a n).take place) c), .int .i64 ((place % d : Nat) : Int), .bool true])) ∧ Below w0.heap.size w0 w' := by
  have CV : Hid (∀ W, Below w0.heap.size w0 W → Calls Tryz.prog 118 #[.pointer (some ⟨ga, 0, none⟩), .agg (SP a n), .agg (SP b m), .int .i64 d] W fun e w' => (e = .returned (.bool true)) ∧ Below W.heap.size W w') := Lib.hid fun W hW => rvalid_ok ga _ live peak a n b m d h W (hr.keep W hW)
  obtain ⟨n1, n2, d1, d2, ap, fit, big, lim⟩ := h
  have HL : Hid ((colOf l a n).length = n) := Lib.hid (len_col (by omega))
  have HCG : Hid (∀ i, i < n → gi (colOf l a n) i = gi l (a + i)) := Lib.hid fun i hi => gi_col (by omega) hi
  have HBY := Lib.hid (hS.byt)
  obtain ⟨q, hq⟩ : ∃ q : Nat, q = place / d := ⟨_, rfl⟩
  obtain ⟨t, ht⟩ : ∃ t : Nat, t = q * d := ⟨_, rfl⟩
  have htp : t ≤ place := by rw [ht, hq]; exact Nat.div_mul_le_self place d
  have hr0 : place % d = place - t := by rw [ht, hq]; have := Nat.div_add_mod place d; rw [Nat.mul_comm] at this; omega
  have e1 : (place : Int).tdiv d = (q : Int) := by rw [hq]; rfl
  have e2 : (place : Int) / d = (q : Int) := by rw [hq]; rfl
  have hqn : q ≤ place := by rw [hq]; exact Nat.div_le_self place d
  have hqd : q ≤ n / d := by rw [hq]; exact Nat.div_le_div_right hp
  have CW : Hid (∀ W, Below w0.heap.size w0 W → 0 < q → Calls Tryz.prog 120 #[.pointer (some ⟨ga, 0, none⟩), .agg (SP b m), .int .i64 (((q : Int) - 1) * 256 + c)] W fun e w' => (e = .returned (.tuple #[.int .u32 (eqn ((colOf l a n).take t) c), .bool true])) ∧ Below W.heap.size W w') := Lib.hid fun W hW hq0 => by
    have hx := getword_ok ga gd b m (256 * (q - 1) + c) l live peak W (hr.keep W hW) (hd.keep W hW) hS.byt (by omega) h2 h3 (by omega)
    rw [hS.word (q - 1) c hc (by omega), show q - 1 + 1 = q by omega, ← ht] at hx
    rw [show ((q : Int) - 1) * 256 + c = ((256 * (q - 1) + c : Nat) : Int) by omega]
    exact hx
  have CB : Hid (∀ W (i : Nat), Below w0.heap.size w0 W → i < n → Calls Tryz.prog 116 #[.pointer (some ⟨ga, 0, none⟩), .agg (SP a n), .int .i64 i] W fun e w' => (e = .returned (.tuple #[.int .u8 (gi (colOf l a n) i), .bool true])) ∧ Below W.heap.size W w') := Lib.hid fun W i hW hi => by
    have := byte_ok ga gd a n i l live peak W (hr.keep W hW) (hd.keep W hW) (by omega) h2 h3 hi
    rwa [← HCG.out i hi] at this
  have q0 : ((d : Int) == 0) = false := by simp; omega
  have q0b : (d : Int) ≠ 0 := by omega
  have w1 : IntKind.i64.wrap (q : Int) = (q : Int) := IntWalk.i64_in _ (by omega)
  have HW2 : Hid (IntKind.i64.wrap ((q : Int) * (d : Int)) = (t : Int)) := Lib.hid (by rw [show (q : Int) * (d : Int) = ((q * d : Nat) : Int) by push_cast; rfl, ← ht]; exact IntWalk.i64_in _ (by omega))
  have w3 : wi place 0 n = true := wi_t (by omega) (by omega)
  have HR0 := Lib.hid hr0
  have HT0 : Hid (q = 0 → t = 0) := Lib.hid (fun h => by rw [ht, h, Nat.zero_mul])
  clear hr hd hS hq ht hr0 hqd big HCG
  generalize colOf l a n = col at *
  by_cases hq0 : q = 0
  · subst hq0
    have HT1 : Hid (t = 0) := Lib.hid (HT0.out rfl)
    clear HT0
    go_enter Tryz.func70, Tryz.ntmps70
    have hm := Own.nil w0
    go_wp2_with (first
      | (go_at_call 118; have _t := hm; refine (CV.out _ hm.below).mono ?_; rintro e w1 ⟨rfl, hb⟩; replace hm := hm.call hb; clear hb _t)
      | (go_at_call 119; refine (rwithin _ _ _ _).mono ?_; rintro e w1 ⟨rfl, rfl⟩)
      | (with_reducible refine gBx ?_; (refine list_eff rfl (eff_box hm rfl rfl ?_); clear hm; first | (have _t := g1; intro w g2 hm) | intro w g1 hm))
      | (with_reducible refine gBo ?_; (refine wpList_run rfl (exec_mul Tryz.underlying3 rfl rfl rfl HW2.out) ?_))
      | (with_reducible refine gLd (t := 3) ?_; (first | (refine wpList_run rfl (ld 0 hm rfl rfl rfl (ot rfl) (by first | exact (SP0 _ _) | exact (SP1 _ _))) ?_) | (refine wpList_run rfl (ld 1 hm rfl rfl rfl (ot rfl) (by first | exact (SP0 _ _) | exact (SP1 _ _))) ?_)))
      | (with_reducible refine gLd (t := 50) ?_; (first | (refine wpList_run rfl (lda 0 hm rfl rfl rfl (aggSP _ _)) ?_) | (refine wpList_run rfl (lda 1 hm rfl rfl rfl (aggSP _ _)) ?_))))
    go_loopw [12, 13, 18] (fun z y u wr => ∃ i : Nat, t ≤ i ∧ i ≤ place ∧ u = .int .i64 i ∧ z = .int .i64 (eqn (col.take i) c) ∧ y = .int .i64 ((i - t : Nat) : Int) ∧ Own w0 wr [(g2, SP b m), (g1, SP a n)] []) (fun _ _ u _ => place - (intOf u).toNat)
    case atStart => exact ⟨t, Nat.le_refl _, htp, rfl, by rw [HT1.out]; simp [eqn], by rw [Nat.sub_self]; rfl, hm⟩
    case round =>
      clear hm
      obtain ⟨i, hi0, hi, rfl, rfl, rfl, hm⟩ := hrel
      by_cases hlt : i < place
      · have hin : i < n := by omega
        have HE := Lib.hid (eqn_snoc col i (by rw [HL.out]; exact hin) c)
        have hbd := eqn_bound (col.take i) c
        have hlt2 := List.length_take_le' i col
        rw [HL.out] at hlt2
        have w4 : IntKind.i64.wrap (eqn (col.take i) c + 1) = eqn (col.take i) c + 1 := IntWalk.i64_in _ (by omega)
        have w5 : IntKind.i64.wrap ((((i - t : Nat)) : Int) + 1) = (((i - t : Nat)) : Int) + 1 := IntWalk.i64_in _ (by omega)
        have HY : Hid (((i + 1 - t : Nat) : Int) = (((i - t : Nat)) : Int) + 1) := Lib.hid (by omega)
        have hin2 := hin
        clear hbd hlt2
        generalize (((i - t : Nat)) : Int) = y1 at *
        generalize eqn (col.take i) c = z1 at *
        have CB1 : Hid (∀ W, Below w0.heap.size w0 W → Calls Tryz.prog 116 #[.pointer (some ⟨ga, 0, none⟩), .agg (SP a n), .int .i64 i] W fun e w' => (e = .returned (.tuple #[.int .u8 (gi col i), .bool true])) ∧ Below W.heap.size W w') := Lib.hid fun W h => CB.out W i h hin
        generalize gi col i = x at *
        by_cases hx : x = c
        · rw [if_pos hx] at HE
          subst hx
          have p1 : ((c : Int) == (c : Int)) = true := by simp
          go_wp2_with (first
              | (go_at_call 116; have _t := hm; refine (CB1.out _ hm.below).mono ?_; rintro e w1 ⟨rfl, hb⟩; replace hm := hm.call hb; clear hb _t)
              | (with_reducible refine gLd (t := 50) ?_; (refine wpList_run rfl (lda 1 hm rfl rfl rfl (aggSP _ _)) ?_)))
          go_roundw
          case rel => exact ⟨i + 1, by omega, by omega, by go_num, by rw [HE.out], by rw [HY.out], hm⟩
          case measure => simp [intOf]; omega
        · rw [if_neg hx, Int.add_zero] at HE
          have p1 : (x == (c : Int)) = false := by simpa using hx
          clear hx
          go_wp2_with (first
              | (go_at_call 116; have _t := hm; refine (CB1.out _ hm.below).mono ?_; rintro e w1 ⟨rfl, hb⟩; replace hm := hm.call hb; clear hb _t)
              | (with_reducible refine gLd (t := 50) ?_; (refine wpList_run rfl (lda 1 hm rfl rfl rfl (aggSP _ _)) ?_)))
          go_roundw
          case rel => exact ⟨i + 1, by omega, by omega, by go_num, by rw [HE.out], by rw [HY.out], hm⟩
          case measure => simp [intOf]; omega
      · obtain rfl : place = i := by omega
        have HY : Hid (((place % d : Nat) : Int) = (((place - t : Nat)) : Int)) := Lib.hid (by rw [HR0.out])
        generalize (((place - t : Nat)) : Int) = y1 at *
        generalize hz1 : eqn (col.take place) c = z1 at *
        have HZ1 := Lib.hid hz1
        clear hz1
        go_wp2
        refine bodyPost_ret (results_tmp3 rfl _ _ _) rfl ⟨by rw [HY.out, HZ1.out]; rfl, hm.below⟩
  · have hqp : 0 < q := by omega
    have p0 : decide ((0 : Int) < (q : Int)) = true := decide_eq_true (by omega)
    have p00 : decide (0 < q) = true := decide_eq_true hqp
    have w6 : IntKind.i64.wrap ((q : Int) - 1) = (q : Int) - 1 := IntWalk.i64_in _ (by omega)
    have w7 : IntKind.i64.wrap (((q : Int) - 1) * 256) = ((q : Int) - 1) * 256 := IntWalk.i64_in _ (by omega)
    have w8 : IntKind.i64.wrap (((q : Int) - 1) * 256 + c) = ((q : Int) - 1) * 256 + c := IntWalk.i64_in _ (by omega)
    have w9 : IntKind.i64.wrap (c : Int) = c := IntWalk.i64_in _ (by omega)
    have CW1 : Hid (∀ W, Below w0.heap.size w0 W → Calls Tryz.prog 120 #[.pointer (some ⟨ga, 0, none⟩), .agg (SP b m), .int .i64 (((q : Int) - 1) * 256 + c)] W fun e w' => (e = .returned (.tuple #[.int .u32 (eqn (col.take t) c), .bool true])) ∧ Below W.heap.size W w') := Lib.hid fun W h => CW.out W h hqp
    have hbd := eqn_bound (col.take t) c
    have hlt2 := List.length_take_le' t col
    rw [HL.out] at hlt2
    have w10 : IntKind.i64.wrap (eqn (col.take t) c) = eqn (col.take t) c := IntWalk.i64_in _ (by omega)
    have HZ : Hid (eqn (col.take t) c = eqn (col.take t) c) := Lib.hid rfl
    clear hbd hlt2
    go_enter Tryz.func70, Tryz.ntmps70
    have hm := Own.nil w0
    go_wp2_with (first
        | (go_at_call 118; have _t := hm; refine (CV.out _ hm.below).mono ?_; rintro e w1 ⟨rfl, hb⟩; replace hm := hm.call hb; clear hb _t)
        | (go_at_call 120; have _t := hm; refine (CW1.out _ hm.below).mono ?_; rintro e w1 ⟨rfl, hb⟩; replace hm := hm.call hb; clear hb _t)
        | (go_at_call 119; refine (rwithin _ _ _ _).mono ?_; rintro e w1 ⟨rfl, rfl⟩)
        | (with_reducible refine gBx ?_; (refine list_eff rfl (eff_box hm rfl rfl ?_); clear hm; first | (have _t := g1; intro w g2 hm) | intro w g1 hm))
        | (with_reducible refine gBo ?_; (refine wpList_run rfl (exec_mul Tryz.underlying3 rfl rfl rfl HW2.out) ?_))
        | (with_reducible refine gLd (t := 3) ?_; (first | (refine wpList_run rfl (ld 0 hm rfl rfl rfl (ot rfl) (by first | exact (SP0 _ _) | exact (SP1 _ _))) ?_) | (refine wpList_run rfl (ld 1 hm rfl rfl rfl (ot rfl) (by first | exact (SP0 _ _) | exact (SP1 _ _))) ?_)))
        | (with_reducible refine gLd (t := 50) ?_; (first | (refine wpList_run rfl (lda 0 hm rfl rfl rfl (aggSP _ _)) ?_) | (refine wpList_run rfl (lda 1 hm rfl rfl rfl (aggSP _ _)) ?_))))
    go_loopw [12, 13, 18] (fun z y u wr => ∃ i : Nat, t ≤ i ∧ i ≤ place ∧ u = .int .i64 i ∧ z = .int .i64 (eqn (col.take i) c) ∧ y = .int .i64 ((i - t : Nat) : Int) ∧ Own w0 wr [(g2, SP b m), (g1, SP a n)] []) (fun _ _ u _ => place - (intOf u).toNat)
    case atStart => exact ⟨t, Nat.le_refl _, htp, rfl, rfl, by rw [Nat.sub_self]; rfl, hm⟩
    case round =>
      clear hm
      obtain ⟨i, hi0, hi, rfl, rfl, rfl, hm⟩ := hrel
      by_cases hlt : i < place
      · have hin : i < n := by omega
        have HE := Lib.hid (eqn_snoc col i (by rw [HL.out]; exact hin) c)
        have hbd := eqn_bound (col.take i) c
        have hlt2 := List.length_take_le' i col
        rw [HL.out] at hlt2
        have w4 : IntKind.i64.wrap (eqn (col.take i) c + 1) = eqn (col.take i) c + 1 := IntWalk.i64_in _ (by omega)
        have w5 : IntKind.i64.wrap ((((i - t : Nat)) : Int) + 1) = (((i - t : Nat)) : Int) + 1 := IntWalk.i64_in _ (by omega)
        have HY : Hid (((i + 1 - t : Nat) : Int) = (((i - t : Nat)) : Int) + 1) := Lib.hid (by omega)
        have hin2 := hin
        clear hbd hlt2
        generalize (((i - t : Nat)) : Int) = y1 at *
        generalize eqn (col.take i) c = z1 at *
        have CB1 : Hid (∀ W, Below w0.heap.size w0 W → Calls Tryz.prog 116 #[.pointer (some ⟨ga, 0, none⟩), .agg (SP a n), .int .i64 i] W fun e w' => (e = .returned (.tuple #[.int .u8 (gi col i), .bool true])) ∧ Below W.heap.size W w') := Lib.hid fun W h => CB.out W i h hin
        generalize gi col i = x at *
        by_cases hx : x = c
        · rw [if_pos hx] at HE
          subst hx
          have p1 : ((c : Int) == (c : Int)) = true := by simp
          go_wp2_with (first
              | (go_at_call 116; have _t := hm; refine (CB1.out _ hm.below).mono ?_; rintro e w1 ⟨rfl, hb⟩; replace hm := hm.call hb; clear hb _t)
              | (with_reducible refine gLd (t := 50) ?_; (refine wpList_run rfl (lda 1 hm rfl rfl rfl (aggSP _ _)) ?_)))
          go_roundw
          case rel => exact ⟨i + 1, by omega, by omega, by go_num, by rw [HE.out], by rw [HY.out], hm⟩
          case measure => simp [intOf]; omega
        · rw [if_neg hx, Int.add_zero] at HE
          have p1 : (x == (c : Int)) = false := by simpa using hx
          clear hx
          go_wp2_with (first
              | (go_at_call 116; have _t := hm; refine (CB1.out _ hm.below).mono ?_; rintro e w1 ⟨rfl, hb⟩; replace hm := hm.call hb; clear hb _t)
              | (with_reducible refine gLd (t := 50) ?_; (refine wpList_run rfl (lda 1 hm rfl rfl rfl (aggSP _ _)) ?_)))
          go_roundw
          case rel => exact ⟨i + 1, by omega, by omega, by go_num, by rw [HE.out], by rw [HY.out], hm⟩
          case measure => simp [intOf]; omega
      · obtain rfl : place = i := by omega
        have HY : Hid (((place % d : Nat) : Int) = (((place - t : Nat)) : Int)) := Lib.hid (by rw [HR0.out])
        generalize (((place - t : Nat)) : Int) = y1 at *
        generalize hz1 : eqn (col.take place) c = z1 at *
        have HZ1 := Lib.hid hz1
        clear hz1
        go_wp2
        refine bodyPost_ret (results_tmp3 rfl _ _ _) rfl ⟨by rw [HY.out, HZ1.out]; rfl, hm.below⟩
end Go.Proofs.YtkpbhdhkdonghaaGreat

namespace Go.Proofs.YtkpbhdhkdonghaaGreat
open Go Go.RowKit
def WK (pa : Value) (la : Int) (ln : Int) (mb : Int) (mn : Int) (ix : Int) (ds : Int) (less : List Int) (row : Int) (told : Int) (st : Int) : Array Value := ([pa, Value.int .i64 la, Value.int .i64 ln, Value.int .i64 mb, Value.int .i64 mn, Value.int .i64 ix, Value.int .i64 ds] ++ (vs .i64 less ++ ([Value.int .i64 row, Value.int .i64 told, Value.int .i64 st]))).toArray
theorem WK_size {pa : Value} {la : Int} {ln : Int} {mb : Int} {mn : Int} {ix : Int} {ds : Int} {less : List Int} {row : Int} {told : Int} {st : Int} (hless : less.length = 256) : (WK pa la ln mb mn ix ds less row told st).size = 266 := by simp [WK, length_vs, hless]
theorem WK_at_pa {pa : Value} {la : Int} {ln : Int} {mb : Int} {mn : Int} {ix : Int} {ds : Int} {less : List Int} {row : Int} {told : Int} {st : Int}  : (WK pa la ln mb mn ix ds less row told st)[0]? = some (pa) := by
  rw [show WK pa la ln mb mn ix ds less row told st = ([] ++ (([pa, Value.int .i64 la, Value.int .i64 ln, Value.int .i64 mb, Value.int .i64 mn, Value.int .i64 ix, Value.int .i64 ds]) ++ (vs .i64 less ++ ([Value.int .i64 row, Value.int .i64 told, Value.int .i64 st])))).toArray by simp [WK, List.append_assoc]]
  exact get3 (P := []) (off := 0) (i := 0) (S := (vs .i64 less ++ ([Value.int .i64 row, Value.int .i64 told, Value.int .i64 st]))) rfl rfl
theorem WK_put_pa {pa : Value} {la : Int} {ln : Int} {mb : Int} {mn : Int} {ix : Int} {ds : Int} {less : List Int} {row : Int} {told : Int} {st : Int}  (x : Value) : (WK pa la ln mb mn ix ds less row told st).setIfInBounds 0 (x) = WK x la ln mb mn ix ds less row told st := by
  rw [show WK pa la ln mb mn ix ds less row told st = ([] ++ (([pa, Value.int .i64 la, Value.int .i64 ln, Value.int .i64 mb, Value.int .i64 mn, Value.int .i64 ix, Value.int .i64 ds]) ++ (vs .i64 less ++ ([Value.int .i64 row, Value.int .i64 told, Value.int .i64 st])))).toArray by simp [WK, List.append_assoc]]
  have h := set3 (P := []) (off := 0) (i := 0) (S := (vs .i64 less ++ ([Value.int .i64 row, Value.int .i64 told, Value.int .i64 st]))) rfl (show 0 < ([pa, Value.int .i64 la, Value.int .i64 ln, Value.int .i64 mb, Value.int .i64 mn, Value.int .i64 ix, Value.int .i64 ds]).length by simp) (x)
  rw [h]
  simp [WK, List.append_assoc]
theorem WK_at_ln {pa : Value} {la : Int} {ln : Int} {mb : Int} {mn : Int} {ix : Int} {ds : Int} {less : List Int} {row : Int} {told : Int} {st : Int}  : (WK pa la ln mb mn ix ds less row told st)[2]? = some (Value.int .i64 ln) := by
  rw [show WK pa la ln mb mn ix ds less row told st = ([] ++ (([pa, Value.int .i64 la, Value.int .i64 ln, Value.int .i64 mb, Value.int .i64 mn, Value.int .i64 ix, Value.int .i64 ds]) ++ (vs .i64 less ++ ([Value.int .i64 row, Value.int .i64 told, Value.int .i64 st])))).toArray by simp [WK, List.append_assoc]]
  exact get3 (P := []) (off := 0) (i := 2) (S := (vs .i64 less ++ ([Value.int .i64 row, Value.int .i64 told, Value.int .i64 st]))) rfl rfl
theorem WK_at_ix {pa : Value} {la : Int} {ln : Int} {mb : Int} {mn : Int} {ix : Int} {ds : Int} {less : List Int} {row : Int} {told : Int} {st : Int}  : (WK pa la ln mb mn ix ds less row told st)[5]? = some (Value.int .i64 ix) := by
  rw [show WK pa la ln mb mn ix ds less row told st = ([] ++ (([pa, Value.int .i64 la, Value.int .i64 ln, Value.int .i64 mb, Value.int .i64 mn, Value.int .i64 ix, Value.int .i64 ds]) ++ (vs .i64 less ++ ([Value.int .i64 row, Value.int .i64 told, Value.int .i64 st])))).toArray by simp [WK, List.append_assoc]]
  exact get3 (P := []) (off := 0) (i := 5) (S := (vs .i64 less ++ ([Value.int .i64 row, Value.int .i64 told, Value.int .i64 st]))) rfl rfl
theorem WK_put_ix {pa : Value} {la : Int} {ln : Int} {mb : Int} {mn : Int} {ix : Int} {ds : Int} {less : List Int} {row : Int} {told : Int} {st : Int}  (x : Int) : (WK pa la ln mb mn ix ds less row told st).setIfInBounds 5 (Value.int .i64 x) = WK pa la ln mb mn x ds less row told st := by
  rw [show WK pa la ln mb mn ix ds less row told st = ([] ++ (([pa, Value.int .i64 la, Value.int .i64 ln, Value.int .i64 mb, Value.int .i64 mn, Value.int .i64 ix, Value.int .i64 ds]) ++ (vs .i64 less ++ ([Value.int .i64 row, Value.int .i64 told, Value.int .i64 st])))).toArray by simp [WK, List.append_assoc]]
  have h := set3 (P := []) (off := 0) (i := 5) (S := (vs .i64 less ++ ([Value.int .i64 row, Value.int .i64 told, Value.int .i64 st]))) rfl (show 5 < ([pa, Value.int .i64 la, Value.int .i64 ln, Value.int .i64 mb, Value.int .i64 mn, Value.int .i64 ix, Value.int .i64 ds]).length by simp) (Value.int .i64 x)
  rw [h]
  simp [WK, List.append_assoc]
theorem WK_at_ds {pa : Value} {la : Int} {ln : Int} {mb : Int} {mn : Int} {ix : Int} {ds : Int} {less : List Int} {row : Int} {told : Int} {st : Int}  : (WK pa la ln mb mn ix ds less row told st)[6]? = some (Value.int .i64 ds) := by
  rw [show WK pa la ln mb mn ix ds less row told st = ([] ++ (([pa, Value.int .i64 la, Value.int .i64 ln, Value.int .i64 mb, Value.int .i64 mn, Value.int .i64 ix, Value.int .i64 ds]) ++ (vs .i64 less ++ ([Value.int .i64 row, Value.int .i64 told, Value.int .i64 st])))).toArray by simp [WK, List.append_assoc]]
  exact get3 (P := []) (off := 0) (i := 6) (S := (vs .i64 less ++ ([Value.int .i64 row, Value.int .i64 told, Value.int .i64 st]))) rfl rfl
theorem WK_put_ds {pa : Value} {la : Int} {ln : Int} {mb : Int} {mn : Int} {ix : Int} {ds : Int} {less : List Int} {row : Int} {told : Int} {st : Int}  (x : Int) : (WK pa la ln mb mn ix ds less row told st).setIfInBounds 6 (Value.int .i64 x) = WK pa la ln mb mn ix x less row told st := by
  rw [show WK pa la ln mb mn ix ds less row told st = ([] ++ (([pa, Value.int .i64 la, Value.int .i64 ln, Value.int .i64 mb, Value.int .i64 mn, Value.int .i64 ix, Value.int .i64 ds]) ++ (vs .i64 less ++ ([Value.int .i64 row, Value.int .i64 told, Value.int .i64 st])))).toArray by simp [WK, List.append_assoc]]
  have h := set3 (P := []) (off := 0) (i := 6) (S := (vs .i64 less ++ ([Value.int .i64 row, Value.int .i64 told, Value.int .i64 st]))) rfl (show 6 < ([pa, Value.int .i64 la, Value.int .i64 ln, Value.int .i64 mb, Value.int .i64 mn, Value.int .i64 ix, Value.int .i64 ds]).length by simp) (Value.int .i64 x)
  rw [h]
  simp [WK, List.append_assoc]
theorem WK_at_less {pa : Value} {la : Int} {ln : Int} {mb : Int} {mn : Int} {ix : Int} {ds : Int} {less : List Int} {row : Int} {told : Int} {st : Int}  (hless : less.length = 256) (i : Nat) (hi : i < 256) : (WK pa la ln mb mn ix ds less row told st)[7 + i]? = some (.int .i64 (gi less i)) := by
  rw [show WK pa la ln mb mn ix ds less row told st = (([pa, Value.int .i64 la, Value.int .i64 ln, Value.int .i64 mb, Value.int .i64 mn, Value.int .i64 ix, Value.int .i64 ds]) ++ ((vs .i64 less) ++ ([Value.int .i64 row, Value.int .i64 told, Value.int .i64 st]))).toArray by simp [WK, List.append_assoc]]
  have h := get3 (P := ([pa, Value.int .i64 la, Value.int .i64 ln, Value.int .i64 mb, Value.int .i64 mn, Value.int .i64 ix, Value.int .i64 ds])) (off := 7) (S := ([Value.int .i64 row, Value.int .i64 told, Value.int .i64 st])) (by simp [length_vs]) (get_vs .i64 less i (by omega))
  exact h
theorem WK_put_less {pa : Value} {la : Int} {ln : Int} {mb : Int} {mn : Int} {ix : Int} {ds : Int} {less : List Int} {row : Int} {told : Int} {st : Int}  (hless : less.length = 256) (i : Nat) (hi : i < 256) (x : Int) : (WK pa la ln mb mn ix ds less row told st).setIfInBounds (7 + i) (.int .i64 x) = WK pa la ln mb mn ix ds (less.set i x) row told st := by
  rw [show WK pa la ln mb mn ix ds less row told st = (([pa, Value.int .i64 la, Value.int .i64 ln, Value.int .i64 mb, Value.int .i64 mn, Value.int .i64 ix, Value.int .i64 ds]) ++ ((vs .i64 less) ++ ([Value.int .i64 row, Value.int .i64 told, Value.int .i64 st]))).toArray by simp [WK, List.append_assoc]]
  have h := set3 (P := ([pa, Value.int .i64 la, Value.int .i64 ln, Value.int .i64 mb, Value.int .i64 mn, Value.int .i64 ix, Value.int .i64 ds])) (off := 7) (S := ([Value.int .i64 row, Value.int .i64 told, Value.int .i64 st])) (by simp [length_vs]) (show i < (vs .i64 less).length by rw [length_vs]; omega) (.int .i64 x)
  rw [vs_set] at h
  skip
  rw [h]
  simp [WK, List.append_assoc]
theorem WK_at_row {pa : Value} {la : Int} {ln : Int} {mb : Int} {mn : Int} {ix : Int} {ds : Int} {less : List Int} {row : Int} {told : Int} {st : Int} (hless : less.length = 256) : (WK pa la ln mb mn ix ds less row told st)[263]? = some (Value.int .i64 row) := by
  rw [show WK pa la ln mb mn ix ds less row told st = (([pa, Value.int .i64 la, Value.int .i64 ln, Value.int .i64 mb, Value.int .i64 mn, Value.int .i64 ix, Value.int .i64 ds] ++ vs .i64 less) ++ (([Value.int .i64 row, Value.int .i64 told, Value.int .i64 st]) ++ [])).toArray by simp [WK, List.append_assoc]]
  exact get3 (P := ([pa, Value.int .i64 la, Value.int .i64 ln, Value.int .i64 mb, Value.int .i64 mn, Value.int .i64 ix, Value.int .i64 ds] ++ vs .i64 less)) (off := 263) (i := 0) (S := []) (by simp [length_vs, hless]) rfl
theorem WK_put_row {pa : Value} {la : Int} {ln : Int} {mb : Int} {mn : Int} {ix : Int} {ds : Int} {less : List Int} {row : Int} {told : Int} {st : Int} (hless : less.length = 256) (x : Int) : (WK pa la ln mb mn ix ds less row told st).setIfInBounds 263 (Value.int .i64 x) = WK pa la ln mb mn ix ds less x told st := by
  rw [show WK pa la ln mb mn ix ds less row told st = (([pa, Value.int .i64 la, Value.int .i64 ln, Value.int .i64 mb, Value.int .i64 mn, Value.int .i64 ix, Value.int .i64 ds] ++ vs .i64 less) ++ (([Value.int .i64 row, Value.int .i64 told, Value.int .i64 st]) ++ [])).toArray by simp [WK, List.append_assoc]]
  have h := set3 (P := ([pa, Value.int .i64 la, Value.int .i64 ln, Value.int .i64 mb, Value.int .i64 mn, Value.int .i64 ix, Value.int .i64 ds] ++ vs .i64 less)) (off := 263) (i := 0) (S := []) (by simp [length_vs, hless]) (show 0 < ([Value.int .i64 row, Value.int .i64 told, Value.int .i64 st]).length by simp) (Value.int .i64 x)
  rw [h]
  simp [WK, List.append_assoc]
theorem WK_lt_row {pa : Value} {la : Int} {ln : Int} {mb : Int} {mn : Int} {ix : Int} {ds : Int} {less : List Int} {row : Int} {told : Int} {st : Int} (hless : less.length = 256) : 263 < (WK pa la ln mb mn ix ds less row told st).size := by rw [WK_size hless]; omega
theorem WK_at_told {pa : Value} {la : Int} {ln : Int} {mb : Int} {mn : Int} {ix : Int} {ds : Int} {less : List Int} {row : Int} {told : Int} {st : Int} (hless : less.length = 256) : (WK pa la ln mb mn ix ds less row told st)[264]? = some (Value.int .i64 told) := by
  rw [show WK pa la ln mb mn ix ds less row told st = (([pa, Value.int .i64 la, Value.int .i64 ln, Value.int .i64 mb, Value.int .i64 mn, Value.int .i64 ix, Value.int .i64 ds] ++ vs .i64 less) ++ (([Value.int .i64 row, Value.int .i64 told, Value.int .i64 st]) ++ [])).toArray by simp [WK, List.append_assoc]]
  exact get3 (P := ([pa, Value.int .i64 la, Value.int .i64 ln, Value.int .i64 mb, Value.int .i64 mn, Value.int .i64 ix, Value.int .i64 ds] ++ vs .i64 less)) (off := 263) (i := 1) (S := []) (by simp [length_vs, hless]) rfl
theorem WK_put_told {pa : Value} {la : Int} {ln : Int} {mb : Int} {mn : Int} {ix : Int} {ds : Int} {less : List Int} {row : Int} {told : Int} {st : Int} (hless : less.length = 256) (x : Int) : (WK pa la ln mb mn ix ds less row told st).setIfInBounds 264 (Value.int .i64 x) = WK pa la ln mb mn ix ds less row x st := by
  rw [show WK pa la ln mb mn ix ds less row told st = (([pa, Value.int .i64 la, Value.int .i64 ln, Value.int .i64 mb, Value.int .i64 mn, Value.int .i64 ix, Value.int .i64 ds] ++ vs .i64 less) ++ (([Value.int .i64 row, Value.int .i64 told, Value.int .i64 st]) ++ [])).toArray by simp [WK, List.append_assoc]]
  have h := set3 (P := ([pa, Value.int .i64 la, Value.int .i64 ln, Value.int .i64 mb, Value.int .i64 mn, Value.int .i64 ix, Value.int .i64 ds] ++ vs .i64 less)) (off := 263) (i := 1) (S := []) (by simp [length_vs, hless]) (show 1 < ([Value.int .i64 row, Value.int .i64 told, Value.int .i64 st]).length by simp) (Value.int .i64 x)
  rw [h]
  simp [WK, List.append_assoc]
theorem WK_lt_told {pa : Value} {la : Int} {ln : Int} {mb : Int} {mn : Int} {ix : Int} {ds : Int} {less : List Int} {row : Int} {told : Int} {st : Int} (hless : less.length = 256) : 264 < (WK pa la ln mb mn ix ds less row told st).size := by rw [WK_size hless]; omega
theorem WK_at_st {pa : Value} {la : Int} {ln : Int} {mb : Int} {mn : Int} {ix : Int} {ds : Int} {less : List Int} {row : Int} {told : Int} {st : Int} (hless : less.length = 256) : (WK pa la ln mb mn ix ds less row told st)[265]? = some (Value.int .i64 st) := by
  rw [show WK pa la ln mb mn ix ds less row told st = (([pa, Value.int .i64 la, Value.int .i64 ln, Value.int .i64 mb, Value.int .i64 mn, Value.int .i64 ix, Value.int .i64 ds] ++ vs .i64 less) ++ (([Value.int .i64 row, Value.int .i64 told, Value.int .i64 st]) ++ [])).toArray by simp [WK, List.append_assoc]]
  exact get3 (P := ([pa, Value.int .i64 la, Value.int .i64 ln, Value.int .i64 mb, Value.int .i64 mn, Value.int .i64 ix, Value.int .i64 ds] ++ vs .i64 less)) (off := 263) (i := 2) (S := []) (by simp [length_vs, hless]) rfl
theorem WK_put_st {pa : Value} {la : Int} {ln : Int} {mb : Int} {mn : Int} {ix : Int} {ds : Int} {less : List Int} {row : Int} {told : Int} {st : Int} (hless : less.length = 256) (x : Int) : (WK pa la ln mb mn ix ds less row told st).setIfInBounds 265 (Value.int .i64 x) = WK pa la ln mb mn ix ds less row told x := by
  rw [show WK pa la ln mb mn ix ds less row told st = (([pa, Value.int .i64 la, Value.int .i64 ln, Value.int .i64 mb, Value.int .i64 mn, Value.int .i64 ix, Value.int .i64 ds] ++ vs .i64 less) ++ (([Value.int .i64 row, Value.int .i64 told, Value.int .i64 st]) ++ [])).toArray by simp [WK, List.append_assoc]]
  have h := set3 (P := ([pa, Value.int .i64 la, Value.int .i64 ln, Value.int .i64 mb, Value.int .i64 mn, Value.int .i64 ix, Value.int .i64 ds] ++ vs .i64 less)) (off := 263) (i := 2) (S := []) (by simp [length_vs, hless]) (show 2 < ([Value.int .i64 row, Value.int .i64 told, Value.int .i64 st]).length by simp) (Value.int .i64 x)
  rw [h]
  simp [WK, List.append_assoc]
theorem WK_lt_st {pa : Value} {la : Int} {ln : Int} {mb : Int} {mn : Int} {ix : Int} {ds : Int} {less : List Int} {row : Int} {told : Int} {st : Int} (hless : less.length = 256) : 265 < (WK pa la ln mb mn ix ds less row told st).size := by rw [WK_size hless]; omega
end Go.Proofs.YtkpbhdhkdonghaaGreat
