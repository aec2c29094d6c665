/-
  The plain law of symbols: the symbols of bytes are the digits and positions of the transformed bytes, and expanding them gives the positions back. No program in sight.
-/
import Derived.Test.YtaccjnekonmkoaaSeM
namespace Go.Proofs.Ytaccjnekonmkoaa
open Go Go.RowKit

theorem ego_enc : ∀ (b l : List Int) (r : Nat) (out : List Int), (ego b l r out).2.2 ++ dg (ego b l r out).2.1 = out ++ enc (plc l b) r
  | [], _, _, _ => rfl
  | c :: b, l, r, out => by
    rw [ego, plc, enc]
    by_cases h : pos l c = 0
    · rw [if_pos h, if_pos h]; exact ego_enc b _ _ _
    · rw [if_neg h, if_neg h, ego_enc b _ _ _]; simp
theorem allO_enc (b : List Int) : allO b = enc (forth b) 0 ++ [257] := by
  rw [allO, ← List.append_assoc, ego_enc, forth, List.nil_append]
/-- What symbols stand for, j digits being ahead of them. -/
def dec : List Int → Nat → List Int
  | [], _ => []
  | s :: l, j => if s = 0 then List.replicate (2 ^ j) 0 ++ dec l (j + 1) else if s = 1 then List.replicate (2 * 2 ^ j) 0 ++ dec l (j + 1) else (s - 1) :: dec l 0
theorem dec_digits (rest : List Int) : ∀ (ds : List Int) (j : Nat), Dig ds → dec (ds ++ rest) j = List.replicate (val j ds).toNat 0 ++ dec rest (j + ds.length)
  | [], j, _ => by simp [val]
  | d :: ds, j, h => by
    have hd := h d (List.mem_cons_self ..)
    have hds : Dig ds := fun x hx => h x (List.mem_cons_of_mem _ hx)
    have hv := val_pos ds (j + 1) hds
    have e0 : ((2 ^ j : Nat) : Int) = (2 : Int) ^ j := by push_cast; rfl
    rw [List.cons_append, dec, dec_digits rest ds (j + 1) hds, val, List.length_cons, show j + 1 + ds.length = j + (ds.length + 1) by omega, ← e0]
    clear e0
    generalize 2 ^ j = q
    rcases hd with rfl | rfl
    · rw [if_pos rfl, ← List.append_assoc, List.replicate_append_replicate, show ((1 + 0) * (q : Int) + val (j + 1) ds).toNat = q + (val (j + 1) ds).toNat by omega]
    · rw [if_neg (by decide), if_pos rfl, ← List.append_assoc, List.replicate_append_replicate, show ((1 + 1) * (q : Int) + val (j + 1) ds).toNat = 2 * q + (val (j + 1) ds).toNat by omega]
theorem dec_dg (rest : List Int) (r : Nat) : dec (dg r ++ rest) 0 = List.replicate r 0 ++ dec rest (dg r).length := by
  rw [dec_digits rest (dg r) 0 (dig_dg r r (Nat.le_refl _)), val_dg r r (Nat.le_refl _) 0, Nat.zero_add]
  simp
theorem dec_enc : ∀ (p : List Int) (r : Nat), Pl p → dec (enc p r) 0 = List.replicate r 0 ++ p
  | [], r, _ => by
    have h := dec_dg [] r
    rw [List.append_nil] at h
    rw [enc, h, dec]
  | x :: p, r, h => by
    have hx := h x (List.mem_cons_self ..)
    have hp : Pl p := fun y hy => h y (List.mem_cons_of_mem _ hy)
    rw [enc]
    by_cases h0 : x = 0
    · subst h0
      rw [if_pos rfl, dec_enc p (r + 1) hp, List.replicate_succ']
      simp
    · rw [if_neg h0, dec_dg, dec, if_neg (by omega), if_neg (by omega), dec_enc p 0 hp, show x + 1 - 1 = x by omega]
      simp
theorem enc_range : ∀ (p : List Int) (r : Nat), Pl p → ∀ s ∈ enc p r, 0 ≤ s ∧ s ≤ 256
  | [], r, _, s, hs => by
    have := dig_dg r r (Nat.le_refl _) s hs
    omega
  | x :: p, r, h, s, hs => by
    have hx := h x (List.mem_cons_self ..)
    have hp : Pl p := fun y hy => h y (List.mem_cons_of_mem _ hy)
    rw [enc] at hs
    by_cases h0 : x = 0
    · rw [if_pos h0] at hs
      exact enc_range p (r + 1) hp s hs
    · rw [if_neg h0] at hs
      rcases List.mem_append.1 hs with hs | hs
      · have := dig_dg r r (Nat.le_refl _) s hs
        omega
      · rcases List.mem_cons.1 hs with rfl | hs
        · omega
        · exact enc_range p 0 hp s hs
theorem pl_forth {b : List Int} (hb : Bytes b) : Pl (forth b) := fun p hp => by
  have := bytes_forth hb p hp
  omega
theorem dec_step (E : List Int) (i : Nat) (h : i < E.length) (j : Nat) : dec (E.drop i) j = if gi E i = 0 then List.replicate (2 ^ j) 0 ++ dec (E.drop (i + 1)) (j + 1) else if gi E i = 1 then List.replicate (2 * 2 ^ j) 0 ++ dec (E.drop (i + 1)) (j + 1) else (gi E i - 1) :: dec (E.drop (i + 1)) 0 := by
  rw [drop_cons0 E i h]; rfl
end Go.Proofs.Ytaccjnekonmkoaa
