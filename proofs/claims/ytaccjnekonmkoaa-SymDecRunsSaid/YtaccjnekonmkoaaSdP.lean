/-
  The plain law of decoding: digits add up to the run; the symbols of bytes are decoded to the bytes at their own limit and at no other. No program in sight.
-/
import Derived.Test.YtaccjnekonmkoaaSdH
import Derived.Test.YtaccjnekonmkoaaSeQ
namespace Go.Proofs.Ytaccjnekonmkoaa
open Go Go.RowKit

theorem val_ge : ∀ (p : List Int) (i : Nat), Dig p → (2 : Int) ^ (i + p.length) ≤ val i p + 2 ^ i
  | [], i, _ => by simp [val]
  | d :: p, i, h => by
    have hp : Dig p := fun x hx => h x (List.mem_cons_of_mem _ hx)
    have h1 := val_ge p (i + 1) hp
    have h2 : (2 : Int) ^ (i + 1) = 2 * 2 ^ i := by rw [Int.pow_succ, Int.mul_comm]
    have h3 := dig_worth i (h d (List.mem_cons_self ..))
    have h4 : (2 : Int) ^ i ≤ (1 + d) * 2 ^ i := by
      rcases h d (List.mem_cons_self ..) with rfl | rfl
      · simp
      · have := pow_pos2 i; omega
    rw [val, List.length_cons, show i + (p.length + 1) = i + 1 + p.length by omega]
    omega
theorem len_val {p : List Int} (hp : Dig p) (h : val 0 p ≤ 65536) : p.length ≤ 16 := by
  have h1 := val_ge p 0 hp
  rw [Nat.zero_add, Int.pow_zero] at h1
  by_cases hl : p.length ≤ 16
  · exact hl
  · have h2 : 2 ^ 17 ≤ 2 ^ p.length := Nat.pow_le_pow_right (n := 2) (by omega) (by omega)
    have h3 : ((2 ^ p.length : Nat) : Int) = (2 : Int) ^ p.length := by push_cast; rfl
    have h4 : ((2 ^ 17 : Nat) : Int) ≤ ((2 ^ p.length : Nat) : Int) := Int.ofNat_le.2 h2
    rw [h3] at h4
    have h5 : ((2 ^ 17 : Nat) : Int) = 131072 := rfl
    omega
/-- A state after the digits p. -/
theorem dOk_digits {l : List Int} {left : Int} {p : List Int} (hl : Vl l) (h1 : left ≤ 65536) (hp : Dig p) (hv : val 0 p ≤ left) : dOk ⟨l, left, val 0 p, p.length, false⟩ = true := by
  have h0 := val_pos p 0 hp
  have h2 := len_val hp (by omega)
  rw [dOk, (vl_iff hl.len hl.bytes).2 hl]
  simp only [Bool.true_and, Bool.not_false, Bool.true_or, Bool.and_true, decide_eq_true_eq]
  exact ⟨by omega, h1, h0, hv, by omega, by omega, by rw [dg_val p hp]⟩
theorem dig_snoc {p : List Int} {d : Int} (hp : Dig p) (hd : d = 0 ∨ d = 1) : Dig (p ++ [d]) := fun x hx => by
  rcases List.mem_append.1 hx with h | h
  · exact hp x h
  · rw [List.mem_singleton.1 h]; exact hd
theorem val_snoc0 (p : List Int) (d : Int) : val 0 (p ++ [d]) = val 0 p + (1 + d) * 2 ^ p.length := by rw [val_snoc, Nat.zero_add]
theorem pow_16 {n : Nat} (h : n ≤ 16) : (2 : Int) ^ n ≤ 65536 := by
  have h1 : 2 ^ n ≤ 2 ^ 16 := Nat.pow_le_pow_right (n := 2) (by omega) h
  have h2 : ((2 ^ n : Nat) : Int) = (2 : Int) ^ n := by push_cast; rfl
  rw [← h2]; exact Int.ofNat_le.2 h1
theorem addV_digit {p : List Int} {d : Int} (hp : Dig p) (hd : d = 0 ∨ d = 1) (hv : val 0 p ≤ 65536) : addV (val 0 p) p.length d = val 0 (p ++ [d]) := by
  have h0 := val_pos p 0 hp
  have h2 := len_val hp hv
  have h3 := pow_16 h2
  rw [val_snoc0]
  exact (add_ok h0 (by omega) hd (by rcases hd with rfl | rfl <;> omega)).1
/-- One digit. -/
theorem dStp_digit {l : List Int} {left : Int} {p : List Int} {d : Int} (hl : Vl l) (h1 : left ≤ 65536) (hp : Dig p) (hv : val 0 p ≤ left) (hd : d = 0 ∨ d = 1) : dStp ⟨l, left, val 0 p, p.length, false⟩ d = if val 0 (p ++ [d]) ≤ left then (⟨l, left, val 0 (p ++ [d]), (p ++ [d]).length, false⟩, [], false, 0) else (⟨l, left, val 0 p, p.length, false⟩, [], false, 160) := by
  have hk := dOk_digits hl h1 hp hv
  have hs : dstep ⟨l, left, val 0 p, p.length, false⟩ d = (⟨l, left, val 0 (p ++ [d]), (p ++ [d]).length, false⟩, [], decide (val 0 (p ++ [d]) ≤ left)) := by
    rw [dstep, if_pos hd]
    show (DS.mk l left (addV (val 0 p) p.length d) (p.length + 1) false, [], decide (addV (val 0 p) p.length d ≤ left)) = _
    rw [addV_digit hp hd (by omega), List.length_append, List.length_singleton]
    rfl
  rw [dStp, if_pos ⟨hk, rfl, by omega, by omega⟩, hs]
  by_cases h : val 0 (p ++ [d]) ≤ left
  · rw [if_pos h, decide_eq_true h, if_pos rfl]
  · rw [if_neg h, decide_eq_false h, if_neg (fun h => by cases h)]
theorem dgo_cons (b : DS) (s : Int) (r out : List Int) (n : Nat) : dgo b (s :: r) out n = if (dStp b s).2.2.2 ≠ 0 then ([], 0, (dStp b s).2.2.2) else if (dStp b s).2.2.1 = true then (out ++ (dStp b s).2.1, n + 1, 0) else dgo (dStp b s).1 r (out ++ (dStp b s).2.1) (n + 1) := rfl
theorem dgo_err {b o : DS} {s e : Int} {t : List Int} {f : Bool} (h : dStp b s = (o, t, f, e)) (he : e ≠ 0) (r out : List Int) (n : Nat) : dgo b (s :: r) out n = ([], 0, e) := by
  rw [dgo_cons, h]; exact if_pos he
theorem dgo_done {b o : DS} {s : Int} {t : List Int} (h : dStp b s = (o, t, true, 0)) (r out : List Int) (n : Nat) : dgo b (s :: r) out n = (out ++ t, n + 1, 0) := by
  rw [dgo_cons, h]; rfl
theorem dgo_next {b o : DS} {s : Int} {t : List Int} (h : dStp b s = (o, t, false, 0)) (r out : List Int) (n : Nat) : dgo b (s :: r) out n = dgo o r (out ++ t) (n + 1) := by
  rw [dgo_cons, h]; rfl
theorem val_append : ∀ (a b : List Int) (i : Nat), val i (a ++ b) = val i a + val (i + a.length) b
  | [], b, i => by simp [val]
  | x :: a, b, i => by
    rw [List.cons_append, val, val, val_append a b (i + 1), List.length_cons, show i + 1 + a.length = i + (a.length + 1) by omega]
    omega
/-- Digits, one after the other. -/
theorem dgo_digits {l : List Int} {left : Int} (hl : Vl l) (h1 : left ≤ 65536) (rest out : List Int) : ∀ (ds p : List Int) (n : Nat), Dig p → Dig ds → val 0 p ≤ left → dgo ⟨l, left, val 0 p, p.length, false⟩ (ds ++ rest) out n = if val 0 (p ++ ds) ≤ left then dgo ⟨l, left, val 0 (p ++ ds), (p ++ ds).length, false⟩ rest out (n + ds.length) else ([], 0, 160)
  | [], p, n, hp, _, hv => by rw [List.append_nil, if_pos hv]; rfl
  | d :: ds, p, n, hp, hd, hv => by
    have hd0 := hd d (List.mem_cons_self ..)
    have hds : Dig ds := fun x hx => hd x (List.mem_cons_of_mem _ hx)
    have hs := dStp_digit hl h1 hp hv hd0
    have ea : p ++ d :: ds = (p ++ [d]) ++ ds := by simp
    rw [List.cons_append]
    by_cases h : val 0 (p ++ [d]) ≤ left
    · rw [if_pos h] at hs
      rw [dgo_next hs, List.append_nil, dgo_digits hl h1 rest out ds (p ++ [d]) (n + 1) (dig_snoc hp hd0) hds h, ea, List.length_cons, show n + 1 + ds.length = n + (ds.length + 1) by omega]
    · rw [if_neg h] at hs
      have hpos := val_pos ds (0 + (p ++ [d]).length) hds
      rw [dgo_err hs (by decide), ea, val_append (p ++ [d]) ds 0, if_neg (by omega)]
theorem dgo_dg {l : List Int} {left : Int} (hl : Vl l) (h0 : 0 ≤ left) (h1 : left ≤ 65536) (rest out : List Int) (r n : Nat) : dgo ⟨l, left, 0, 0, false⟩ (dg r ++ rest) out n = if (r : Int) ≤ left then dgo ⟨l, left, r, (dg r).length, false⟩ rest out (n + (dg r).length) else ([], 0, 160) := by
  have h := dgo_digits hl h1 rest out (dg r) [] n (fun _ h => by cases h) (dig_dg r r (Nat.le_refl _)) h0
  rw [List.nil_append, val_dg r r (Nat.le_refl _) 0, Int.pow_zero, Int.mul_one] at h
  exact h
theorem dOk_run {l : List Int} {left : Int} {r : Nat} (hl : Vl l) (h1 : left ≤ 65536) (hv : (r : Int) ≤ left) : dOk ⟨l, left, r, (dg r).length, false⟩ = true := by
  have h := dOk_digits (left := left) hl h1 (dig_dg r r (Nat.le_refl _)) (by rw [val_dg r r (Nat.le_refl _) 0, Int.pow_zero, Int.mul_one]; exact hv)
  rwa [val_dg r r (Nat.le_refl _) 0, Int.pow_zero, Int.mul_one] at h
/-- The end. -/
theorem dStp_eob {l : List Int} {left : Int} {r : Nat} (hl : Vl l) (h1 : left ≤ 65536) (hv : (r : Int) ≤ left) : dStp ⟨l, left, r, (dg r).length, false⟩ 257 = if (r : Int) = left then (⟨l, 0, 0, 0, true⟩, List.replicate r (gi l 0), true, 0) else (⟨l, left, r, (dg r).length, false⟩, [], false, 160) := by
  have hs : dstep ⟨l, left, r, (dg r).length, false⟩ 257 = (⟨l, 0, 0, 0, true⟩, List.replicate r (gi l 0), decide ((r : Int) = left)) := by
    rw [dstep, if_neg (by decide), if_pos rfl, DS.rep]
    simp only [Int.toNat_natCast]
  rw [dStp, if_pos ⟨dOk_run hl h1 hv, rfl, by omega, by omega⟩, hs]
  by_cases h : (r : Int) = left
  · rw [if_pos h, decide_eq_true h, if_pos rfl]
  · rw [if_neg h, decide_eq_false h, if_neg (fun h => by cases h)]
/-- A position other than the first. -/
theorem dStp_pos {l : List Int} {left p : Int} {r : Nat} (hl : Vl l) (h1 : left ≤ 65536) (hv : (r : Int) ≤ left) (hp : 0 < p) (hp2 : p < 256) : dStp ⟨l, left, r, (dg r).length, false⟩ (p + 1) = if (r : Int) = left then (⟨l, left, r, (dg r).length, false⟩, [], false, 160) else (⟨takeL l p, left - (r + 1), 0, 0, false⟩, List.replicate r (gi l 0) ++ [takeC l p], false, 0) := by
  have hs : dstep ⟨l, left, r, (dg r).length, false⟩ (p + 1) = if (r : Int) = left then (⟨l, left, r, (dg r).length, false⟩, [], false) else (⟨takeL l p, left - (r + 1), 0, 0, false⟩, List.replicate r (gi l 0) ++ [takeC l p], true) := by
    rw [dstep, if_neg (show ¬ (p + 1 = 0 ∨ p + 1 = 1) by omega), if_neg (show ¬ p + 1 = 257 by omega), DS.rep]
    simp only [Int.toNat_natCast, show p + 1 - 1 = p by omega]
  rw [dStp, if_pos ⟨dOk_run hl h1 hv, rfl, by omega, by omega⟩, hs]
  by_cases h : (r : Int) = left
  · rw [if_pos h, if_pos h, if_neg (fun h => by cases h)]
  · rw [if_neg h, if_neg h, if_pos rfl]
/-- The symbols of bytes, whatever is behind them. -/
theorem dgo_enc (behind : List Int) : ∀ (t l : List Int) (left : Int) (r : Nat) (out : List Int) (n : Nat), Vl l → Bytes t → 0 ≤ left → left ≤ 65536 → dgo ⟨l, left, 0, 0, false⟩ (enc (plc l t) r ++ 257 :: behind) out n = if left = r + t.length then (out ++ List.replicate r (gi l 0) ++ t, n + (enc (plc l t) r).length + 1, 0) else ([], 0, 160)
  | [], l, left, r, out, n, hl, _, h0, h1 => by
    rw [plc, enc, dgo_dg hl h0 h1, List.append_nil, List.length_nil]
    by_cases h : (r : Int) ≤ left
    · have hs := dStp_eob hl h1 h
      rw [if_pos h]
      by_cases he : (r : Int) = left
      · rw [if_pos he] at hs
        rw [dgo_done hs, if_pos (by show left = (r : Int) + ((0 : Nat) : Int); omega)]
      · rw [if_neg he] at hs
        rw [dgo_err hs (by decide), if_neg (by show ¬ left = (r : Int) + ((0 : Nat) : Int); omega)]
    · rw [if_neg h, if_neg (by show ¬ left = (r : Int) + ((0 : Nat) : Int); omega)]
  | c :: t, l, left, r, out, n, hl, hb, h0, h1 => by
    have hc := hb c (List.mem_cons_self ..)
    have hbt : Bytes t := fun x hx => hb x (List.mem_cons_of_mem _ hx)
    have hpr := pos_range hl hc.1 hc.2
    rw [plc, enc, List.length_cons]
    by_cases hp : pos l c = 0
    · have hg := (pos_zero hl hc.1 hc.2).1 hp
      have hpl : putL l c = l := by rw [putL, hp, takeL_zero hl.len]
      rw [if_pos hp, hpl, dgo_enc behind t l left (r + 1) out n hl hbt h0 h1, hg]
      by_cases he : left = ((r + 1 : Nat) : Int) + t.length
      · rw [if_pos he, if_pos (by omega), List.replicate_succ']; simp
      · rw [if_neg he, if_neg (by omega)]
    · rw [if_neg hp, List.append_assoc, dgo_dg hl h0 h1]
      by_cases h : (r : Int) ≤ left
      · have hs := dStp_pos hl h1 h (p := pos l c) (by omega) hpr.2
        rw [if_pos h, List.cons_append]
        by_cases he : (r : Int) = left
        · rw [if_pos he] at hs
          rw [dgo_err hs (by decide), if_neg (by omega)]
        · rw [if_neg he] at hs
          rw [dgo_next hs, takeC_pos hl hc.1 hc.2, show takeL l (pos l c) = putL l c from rfl, dgo_enc behind t (putL l c) (left - (r + 1)) 0 _ _ (hl.putL c) hbt (by omega) (by omega)]
          by_cases hf : left = r + ((t.length + 1 : Nat) : Int)
          · rw [if_pos (by omega), if_pos hf]
            simp only [List.replicate_zero, List.append_nil, List.append_assoc, List.singleton_append, List.length_append, List.length_cons]
            congr 2
            omega
          · rw [if_neg (by omega), if_neg hf]
      · rw [if_neg h, if_neg (by omega)]
/-- **The stage's theorem**: the symbols of bytes restore them at their own limit and fail at any other. -/
theorem forth_law {t : List Int} (hb : Bytes t) (most : Int) (behind : List Int) : dAll most (allO t ++ behind) = if 1 ≤ most ∧ most ≤ 65536 then (if most = t.length then (t, (allO t).length, 0) else ([], 0, 160)) else ([], 0, 2) := by
  rw [dAll]
  by_cases h : 1 ≤ most ∧ most ≤ 65536
  · rw [if_pos h, if_pos h, dNew, if_pos h, allO_enc, forth, List.append_assoc, List.singleton_append, dgo_enc behind t new most 0 [] 0 vl_new hb (by omega) h.2]
    by_cases he : most = t.length
    · rw [if_pos he, if_pos (by omega)]; simp
    · rw [if_neg he, if_neg (by omega)]
  · rw [if_neg h, if_neg h]
/-- A run's digits and the end. -/
theorem runs_law (n : Nat) (most : Int) (h : 1 ≤ most) (h2 : most ≤ 65536) : dAll most (dg n ++ [257]) = if (n : Int) = most then (List.replicate n 0, (dg n).length + 1, 0) else ([], 0, 160) := by
  rw [dAll, if_pos ⟨h, h2⟩, dNew, if_pos ⟨h, h2⟩, dgo_dg vl_new (by omega) h2]
  by_cases hn : (n : Int) ≤ most
  · have hs := dStp_eob vl_new h2 hn
    rw [if_pos hn]
    by_cases he : (n : Int) = most
    · rw [if_pos he] at hs
      rw [dgo_done hs, if_pos he, show gi new 0 = 0 by decide +kernel, List.nil_append, Nat.zero_add]
    · rw [if_neg he] at hs
      rw [dgo_err hs (by decide), if_neg he]
  · rw [if_neg hn, if_neg (by omega)]
/-- A state that a symbol leads to is a state. -/
theorem dOk_parts {b : DS} (hl : b.l.length = 256) (hb : Bytes b.l) (h : dOk b = true) (hf : b.fin = false) : ∃ p, Dig p ∧ b = ⟨b.l, b.left, val 0 p, p.length, false⟩ ∧ Vl b.l ∧ b.left ≤ 65536 ∧ val 0 p ≤ b.left := by
  obtain ⟨a1, a2, a3, a4, a5, a6, a7⟩ := dOk_nums h
  have hv : val 0 (dg b.run.toNat) = b.run := by rw [val_dg _ _ (Nat.le_refl _) 0, Int.pow_zero, Int.mul_one]; omega
  rw [dOk, Bool.and_eq_true] at h
  refine ⟨dg b.run.toNat, dig_dg _ _ (Nat.le_refl _), ?_, (vl_iff hl hb).1 h.1, a2, by omega⟩
  rw [hv, a7, ← hf]
theorem dOk_end {l : List Int} (hl : Vl l) : dOk ⟨l, 0, 0, 0, true⟩ = true := by
  rw [dOk, (vl_iff hl.len hl.bytes).2 hl]; rfl
theorem dOk_dStp {b : DS} {s : Int} (hl : b.l.length = 256) (hb : Bytes b.l) (he : (dStp b s).2.2.2 = 0) : dOk (dStp b s).1 = true ∧ (dStp b s).2.2.1 = (dStp b s).1.fin ∧ ((dStp b s).2.2.1 = true → (dStp b s).1.left = 0) := by
  have hk : dOk b = true ∧ b.fin = false ∧ 0 ≤ s ∧ s ≤ 257 := by
    by_cases h : dOk b = true ∧ b.fin = false ∧ 0 ≤ s ∧ s ≤ 257
    · exact h
    · rw [dStp, if_neg h] at he; cases he
  obtain ⟨p, hp, hbe, hvl, h65, hv⟩ := dOk_parts hl hb hk.1 hk.2.1
  have hp0 := val_pos p 0 hp
  generalize b.l = l at *
  generalize b.left = left at *
  subst hbe
  by_cases h2 : s = 0 ∨ s = 1
  · rw [dStp_digit hvl h65 hp hv h2] at he ⊢
    by_cases h : val 0 (p ++ [s]) ≤ left
    · rw [if_pos h]
      exact ⟨dOk_digits hvl h65 (dig_snoc hp h2) h, rfl, fun h => by cases h⟩
    · rw [if_neg h] at he; cases he
  · have e1 : val 0 p = ((val 0 p).toNat : Int) := by omega
    have e2 : p.length = (dg (val 0 p).toNat).length := by rw [dg_val p hp]
    rw [e2]; rw [e2] at he
    generalize (val 0 p).toNat = r at *
    rw [e1] at he hv ⊢
    by_cases h3 : s = 257
    · subst h3
      rw [dStp_eob hvl h65 hv] at he ⊢
      by_cases h : (r : Int) = left
      · rw [if_pos h]
        exact ⟨dOk_end hvl, rfl, fun _ => rfl⟩
      · rw [if_neg h] at he; cases he
    · have e3 : s = (s - 1) + 1 := by omega
      rw [e3, dStp_pos hvl h65 hv (by omega) (by omega)] at he ⊢
      by_cases h : (r : Int) = left
      · rw [if_pos h] at he; cases he
      · rw [if_neg h]
        refine ⟨?_, rfl, fun h => by cases h⟩
        have := dOk_run (l := takeL l (s - 1)) (left := left - (r + 1)) (r := 0) (hvl.takeL _) (by omega) (by omega)
        exact this
theorem dStp_err {b : DS} {s : Int} (he : (dStp b s).2.2.2 ≠ 0) : ∃ e, (e = 2 ∨ e = 160) ∧ dStp b s = (b, [], false, e) := by
  rw [dStp] at he ⊢
  by_cases h : dOk b = true ∧ b.fin = false ∧ 0 ≤ s ∧ s ≤ 257
  · rw [if_pos h] at he ⊢
    by_cases h2 : (dstep b s).2.2 = true
    · rw [if_pos h2] at he; exact absurd rfl he
    · rw [if_neg h2]; exact ⟨160, .inr rfl, rfl⟩
  · rw [if_neg h]; exact ⟨2, .inl rfl, rfl⟩
theorem dStp_fin {b : DS} {s : Int} (h : b.fin = true) : dStp b s = (b, [], false, 2) := by
  rw [dStp, if_neg (fun k => by rw [h] at k; cases k.2.1)]
end Go.Proofs.Ytaccjnekonmkoaa
