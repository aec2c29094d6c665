/-
  The plain law of zero runs: Unfold restores what Fold was given, and Fold the symbols that Unfold was given. No program in sight.
-/
import Derived.Test.YtaccjnekonmkoaaZrP
namespace Go.Proofs.Ytaccjnekonmkoaa
open Go Go.RowKit

/-- The symbols of positions, r zeros being ahead of them. -/
def enc : List Int → Nat → List Int
  | [], r => dg r
  | p :: l, r => if p = 0 then enc l (r + 1) else dg r ++ (p + 1) :: enc l 0
def Pl (l : List Int) : Prop := ∀ p ∈ l, 0 ≤ p ∧ p ≤ 255
theorem fgo_enc : ∀ (l : List Int) (r : Nat) (out : List Int), Pl l → fgo l r out = (out ++ enc l r, 0)
  | [], r, out, _ => rfl
  | p :: l, r, out, h => by
    have hp := h p (List.mem_cons_self ..)
    have hl : Pl l := fun x hx => h x (List.mem_cons_of_mem _ hx)
    rw [fgo, if_neg (by omega), enc]
    by_cases h0 : p = 0
    · rw [if_pos h0, if_pos h0, fgo_enc l (r + 1) out hl]
    · rw [if_neg h0, if_neg h0, fgo_enc l 0 _ hl]
      simp
theorem fgo_bad : ∀ (l : List Int) (r : Nat) (out : List Int), ¬ Pl l → fgo l r out = ([], 2)
  | [], r, out, h => absurd (fun p hp => absurd hp (by simp)) h
  | p :: l, r, out, h => by
    rw [fgo]
    by_cases hp : p < 0 ∨ 255 < p
    · rw [if_pos hp]
    · rw [if_neg hp]
      have hl : ¬ Pl l := fun hl => h (fun x hx => by
        rcases List.mem_cons.1 hx with rfl | hx
        · omega
        · exact hl x hx)
      by_cases h0 : p = 0
      · rw [if_pos h0, fgo_bad l _ _ hl]
      · rw [if_neg h0, fgo_bad l _ _ hl]
theorem val_snoc : ∀ (l : List Int) (i : Nat) (d : Int), val i (l ++ [d]) = val i l + (1 + d) * 2 ^ (i + l.length)
  | [], i, d => by simp [val]
  | x :: l, i, d => by
    rw [List.cons_append, val, val, val_snoc l (i + 1) d, List.length_cons, show i + 1 + l.length = i + (l.length + 1) by omega]
    omega
theorem val_succ : ∀ (l : List Int) (i : Nat), val (i + 1) l = 2 * val i l
  | [], _ => rfl
  | d :: l, i => by
    have e1 : (2 : Int) ^ (i + 1) = 2 * 2 ^ i := by rw [Int.pow_succ, Int.mul_comm]
    have e2 : (1 + d) * (2 * 2 ^ i) = 2 * ((1 + d) * 2 ^ i) := by rw [← Int.mul_assoc, Int.mul_comm (1 + d) 2, Int.mul_assoc]
    rw [val, val, val_succ l (i + 1), e1, e2]
    omega
theorem dg_val : ∀ (l : List Int), Dig l → dg (val 0 l).toNat = l
  | [], _ => rfl
  | d :: l, h => by
    have hl : Dig l := fun x hx => h x (List.mem_cons_of_mem _ hx)
    have hd := h d (List.mem_cons_self ..)
    have hv := val_pos l 0 hl
    have ih := dg_val l hl
    have e : val 0 (d :: l) = (1 + d) + 2 * val 0 l := by
      have e0 : (2 : Int) ^ 0 = 1 := rfl
      rw [val, Nat.zero_add, val_succ l 0, e0, Int.mul_one]
    rw [e]
    generalize val 0 l = v at *
    obtain ⟨v, rfl⟩ := Int.eq_ofNat_of_zero_le hv
    rw [Int.toNat_natCast] at ih
    rcases hd with rfl | rfl
    · rw [show (1 + 0 + 2 * (v : Int)).toNat = 2 * v + 1 by omega, dg_step _ (by omega), show (2 * v + 1 - 1) / 2 = v by omega, ih, show ((2 * v + 1 - 1 : Nat) : Int) % 2 = 0 by omega]
    · rw [show (1 + 1 + 2 * (v : Int)).toNat = 2 * v + 2 by omega, dg_step _ (by omega), show (2 * v + 2 - 1) / 2 = v by omega, ih, show ((2 * v + 2 - 1 : Nat) : Int) % 2 = 1 by omega]
theorem ugo_digits (most : Int) (out rest : List Int) : ∀ (l : List Int) (run : Int) (many : Nat), Dig l → 0 ≤ run → many + l.length ≤ 31 → run + val many l ≤ 2147483647 →
    ugo most (l ++ rest) run many out = if l = [] ∨ run + val many l ≤ most - out.length then ugo most rest (run + val many l) (many + l.length) out else ([], 2)
  | [], run, many, _, _, _, _ => by simp [val]
  | d :: l, run, many, hd, h0, hl, hs => by
    have hd0 := hd d (List.mem_cons_self ..)
    have hd1 : Dig l := fun x hx => hd x (List.mem_cons_of_mem _ hx)
    have hv := val_pos l (many + 1) hd1
    have hw := dig_worth many hd0
    rw [val] at hs ⊢
    rw [List.length_cons] at hl ⊢
    obtain ⟨e1, e2⟩ := add_ok h0 (by omega : many ≤ 30) hd0 (by omega : run + (1 + d) * 2 ^ many ≤ 2147483647)
    rw [List.cons_append, ugo, if_pos hd0, e1, e2]
    by_cases hf : run + (1 + d) * 2 ^ many ≤ most - out.length
    · rw [if_pos ⟨rfl, hf⟩, ugo_digits most out rest l _ (many + 1) hd1 (by omega) (by omega) (by omega)]
      have e3 : run + (1 + d) * 2 ^ many + val (many + 1) l = run + ((1 + d) * 2 ^ many + val (many + 1) l) := by omega
      rw [e3, show many + 1 + l.length = many + (l.length + 1) by omega]
      by_cases hn : l = []
      · subst hn
        rw [if_pos (.inl rfl), if_pos (.inr (by rw [val]; omega))]
      · by_cases hq : run + ((1 + d) * 2 ^ many + val (many + 1) l) ≤ most - out.length
        · rw [if_pos (.inr hq), if_pos (.inr hq)]
        · rw [if_neg (fun h => h.elim hn hq), if_neg (fun h => h.elim (by simp) hq)]
    · rw [if_neg (fun h => hf h.2), if_neg (fun h => h.elim (by simp) (fun h => hf (by omega)))]
theorem dg_ne {r : Nat} (h : 0 < r) : dg r ≠ [] := by rw [dg_step r h]; simp
/-- The digits of r, read by Unfold. -/
theorem ugo_dg (most : Int) (out rest : List Int) (r : Nat) (hr : r < 2 ^ 31) : ugo most (dg r ++ rest) 0 0 out = if r = 0 ∨ (r : Int) ≤ most - out.length then ugo most rest r (dg r).length out else ([], 2) := by
  have hl := len_dg 31 r hr
  have hv := val_dg r r (Nat.le_refl _) 0
  have e0 : (2 : Int) ^ 0 = 1 := rfl
  rw [e0, Int.mul_one] at hv
  rw [ugo_digits most out rest (dg r) 0 0 (dig_dg r r (Nat.le_refl _)) (Int.le_refl _) (by omega) (by rw [hv]; omega), hv, Int.zero_add, Nat.zero_add]
  by_cases h0 : r = 0
  · subst h0; rw [if_pos (.inl dg_zero), if_pos (.inl rfl)]
  · by_cases hq : (r : Int) ≤ most - out.length
    · rw [if_pos (.inr hq), if_pos (.inr hq)]
    · rw [if_neg (fun h => h.elim (dg_ne (by omega)) hq), if_neg (fun h => h.elim h0 hq)]
theorem ugo_enc (most : Int) (hm : 0 ≤ most) : ∀ (l : List Int) (r : Nat) (out : List Int), Pl l → r + l.length < 2 ^ 31 → (out.length : Int) ≤ most →
    ugo most (enc l r) 0 0 out = if (out.length : Int) + r + l.length ≤ most then (out ++ List.replicate r 0 ++ l, 0) else ([], 2)
  | [], r, out, _, hr, ho => by
    have h := ugo_dg most out [] r (by simpa using hr)
    rw [List.append_nil] at h
    rw [enc, h, List.length_nil]
    by_cases hq : (r : Int) ≤ most - out.length
    · rw [if_pos (.inr hq), if_pos (by omega), ugo, if_neg (by omega), Int.toNat_natCast, List.append_nil]
    · rw [if_neg (fun h => h.elim (fun h => by omega) hq), if_neg (by omega)]
  | p :: l, r, out, h, hr, ho => by
    have hp := h p (List.mem_cons_self ..)
    have hl : Pl l := fun x hx => h x (List.mem_cons_of_mem _ hx)
    rw [List.length_cons] at hr ⊢
    rw [enc]
    by_cases h0 : p = 0
    · subst h0
      rw [if_pos rfl, ugo_enc most hm l (r + 1) out hl (by omega) ho]
      have e : out ++ List.replicate (r + 1) 0 ++ l = out ++ List.replicate r 0 ++ 0 :: l := by
        rw [List.replicate_succ']; simp
      rw [e]
      by_cases hq : (out.length : Int) + r + ((l.length + 1 : Nat) : Int) ≤ most
      · rw [if_pos (by omega), if_pos hq]
      · rw [if_neg (by omega), if_neg hq]
    · rw [if_neg h0, ugo_dg most out _ r (by omega)]
      by_cases hq : (r : Int) < most - out.length
      · have hlen : ((out ++ List.replicate r 0 ++ [p + 1 - 1]).length : Int) = out.length + r + 1 := by simp; omega
        rw [if_pos (.inr (by omega)), ugo, if_neg (by omega), if_pos ⟨by omega, by omega, hq⟩, Int.toNat_natCast, ugo_enc most hm l 0 _ hl (by omega) (by rw [hlen]; omega), hlen]
        have e : out ++ List.replicate r 0 ++ [p + 1 - 1] ++ List.replicate 0 0 ++ l = out ++ List.replicate r 0 ++ p :: l := by
          rw [show p + 1 - 1 = p by omega]; simp
        rw [e]
        by_cases hq2 : (out.length : Int) + r + ((l.length + 1 : Nat) : Int) ≤ most
        · rw [if_pos (by omega), if_pos hq2]
        · rw [if_neg (by omega), if_neg hq2]
      · rw [if_neg (by omega : ¬ (out.length : Int) + r + ((l.length + 1 : Nat) : Int) ≤ most)]
        by_cases hq3 : r = 0 ∨ (r : Int) ≤ most - out.length
        · rw [if_pos hq3, ugo, if_neg (by omega), if_neg (fun h => hq h.2.2)]
        · rw [if_neg hq3]
theorem enc_zeros (t : List Int) : ∀ (k r : Nat), enc (List.replicate k 0 ++ t) r = enc t (r + k)
  | 0, r => by simp
  | k + 1, r => by rw [List.replicate_succ, List.cons_append, enc, if_pos rfl, enc_zeros t k (r + 1), show r + 1 + k = r + (k + 1) by omega]
theorem len_dg_le (k : Nat) : ∀ n, n ≤ k → (dg n).length ≤ n := by
  induction k with
  | zero => intro n hn; obtain rfl : n = 0 := by omega
            simp [dg_zero]
  | succ k ih =>
    intro n hn
    by_cases h0 : n = 0
    · subst h0; simp [dg_zero]
    · rw [dg_step n (by omega), List.length_cons]
      have := ih ((n - 1) / 2) (by omega)
      omega
theorem len_enc : ∀ (l : List Int) (r : Nat), (enc l r).length ≤ l.length + r
  | [], r => by rw [enc]; have := len_dg_le r r (Nat.le_refl _); simp; omega
  | p :: l, r => by
    rw [enc, List.length_cons]
    split
    · have := len_enc l (r + 1); omega
    · have h1 := len_enc l 0
      have h2 := len_dg_le r r (Nat.le_refl _)
      rw [List.length_append, List.length_cons]
      omega
theorem len_enc_eq : ∀ (l : List Int), (∀ p ∈ l, p ≠ 0) → (enc l 0).length = l.length
  | [], _ => rfl
  | p :: l, h => by
    rw [enc, if_neg (h p (List.mem_cons_self ..)), dg_zero, List.nil_append, List.length_cons, len_enc_eq l (fun x hx => h x (List.mem_cons_of_mem _ hx)), List.length_cons]
/-- What Unfold accepts, Fold gives back. -/
theorem ugo_only (most : Int) (p : List Int) : ∀ (l : List Int) (run : Int) (many : Nat) (out ds : List Int), Dig ds → ds.length = many → val 0 ds = run → (run + out.length ≤ most ∨ (run = 0 ∧ out = [])) → ugo most l run many out = (p, 0) →
    ∃ q, p = out ++ q ∧ Pl q ∧ enc q 0 = ds ++ l ∧ (p.length : Int) ≤ most
  | [], run, many, out, ds, hd, hn, hv, hb, h => by
    have hr := val_pos ds 0 hd
    rw [hv] at hr
    rw [ugo] at h
    by_cases hm : most < 0
    · rw [if_pos hm] at h; cases h
    · rw [if_neg hm] at h
      have hp := congrArg Prod.fst h
      dsimp only at hp
      refine ⟨List.replicate run.toNat 0, hp.symm, fun x hx => by rw [List.eq_of_mem_replicate hx]; omega, ?_, ?_⟩
      · have := enc_zeros [] run.toNat 0
        rw [List.append_nil] at this
        rw [this, enc, Nat.zero_add, ← hv, dg_val ds hd, List.append_nil]
      · rw [← hp, List.length_append, List.length_replicate]
        rcases hb with hb | ⟨h1, h2⟩
        · omega
        · subst h1 h2; simp; omega
  | s :: l, run, many, out, ds, hd, hn, hv, hb, h => by
    have hr := val_pos ds 0 hd
    rw [hv] at hr
    rw [ugo] at h
    by_cases hs : s = 0 ∨ s = 1
    · rw [if_pos hs] at h
      by_cases hc : addE run many s = 0 ∧ addV run many s ≤ most - out.length
      · rw [if_pos hc] at h
        have hV : addV run many s = run + (1 + s) * 2 ^ many := by
          have h0 := hc.1
          unfold addE at h0
          split at h0
          · rename_i ha; rw [addV, if_pos ha, addS_step]
          · cases h0
        have e : val 0 (ds ++ [s]) = addV run many s := by rw [val_snoc, hv, hV, hn, Nat.zero_add]
        obtain ⟨q, h1, h2, h3, h4⟩ := ugo_only most p l _ (many + 1) out (ds ++ [s]) (fun x hx => by
          rcases List.mem_append.1 hx with hx | hx
          · exact hd x hx
          · rw [List.mem_singleton.1 hx]; exact hs) (by simp [hn]) e (.inl (by omega)) h
        exact ⟨q, h1, h2, by rw [h3]; simp, h4⟩
      · rw [if_neg hc] at h; cases h
    · rw [if_neg hs] at h
      by_cases hc : 0 ≤ s ∧ s < 257 ∧ run < most - out.length
      · rw [if_pos hc] at h
        obtain ⟨q, h1, h2, h3, h4⟩ := ugo_only most p l 0 0 _ [] (fun x hx => absurd hx (by simp)) rfl rfl (.inl (by simp only [List.length_append, List.length_replicate, List.length_cons, List.length_nil]; omega)) h
        refine ⟨List.replicate run.toNat 0 ++ (s - 1) :: q, by rw [h1]; simp, fun x hx => ?_, ?_, h4⟩
        · rcases List.mem_append.1 hx with hx | hx
          · rw [List.eq_of_mem_replicate hx]; omega
          · rcases List.mem_cons.1 hx with rfl | hx
            · omega
            · exact h2 x hx
        · rw [enc_zeros, enc, if_neg (by omega), Nat.zero_add, ← hv, dg_val ds hd, h3, show s - 1 + 1 = s by omega]
          rfl
      · rw [if_neg hc] at h; cases h
theorem ugo_two (most : Int) : ∀ (l : List Int) (run : Int) (many : Nat) (out : List Int), (ugo most l run many out).2 = 0 ∨ ugo most l run many out = ([], 2)
  | [], run, many, out => by rw [ugo]; split <;> simp
  | s :: l, run, many, out => by
    rw [ugo]
    split
    · split
      · exact ugo_two most l _ _ _
      · exact .inr rfl
    · split
      · exact ugo_two most l _ _ _
      · exact .inr rfl
theorem only_law {most : Int} {l : List Int} (h : (unfoldO most l).2 = 0) : foldO (unfoldO most l).1 = (l, 0) ∧ ((unfoldO most l).1.length : Int) ≤ most := by
  have e : ugo most l 0 0 [] = ((unfoldO most l).1, 0) := Prod.ext rfl h
  obtain ⟨q, h1, h2, h3, h4⟩ := ugo_only most _ l 0 0 [] [] (fun x hx => absurd hx (by simp)) rfl rfl (.inr ⟨rfl, rfl⟩) e
  rw [List.nil_append] at h1 h3
  rw [← h1] at h2 h3
  refine ⟨?_, h4⟩
  rw [foldO, fgo_enc _ 0 [] h2, h3, List.nil_append]
theorem back_law {l : List Int} (h : Pl l) (hl : l.length ≤ 1000) : foldO l = (enc l 0, 0) ∧ unfoldO l.length (enc l 0) = (l, 0) ∧ (l ≠ [] → unfoldO ((l.length : Int) - 1) (enc l 0) = ([], 2)) := by
  refine ⟨by rw [foldO, fgo_enc l 0 [] h, List.nil_append], ?_, fun hn => ?_⟩
  · rw [unfoldO, ugo_enc l.length (by omega) l 0 [] h (by omega) (by simp), if_pos (by simp)]
    simp
  · have hp : 0 < l.length := List.length_pos_iff.2 hn
    rw [unfoldO, ugo_enc ((l.length : Int) - 1) (by omega) l 0 [] h (by omega) (by simp; omega), if_neg (by simp; omega)]
end Go.Proofs.Ytaccjnekonmkoaa
