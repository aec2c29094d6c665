/-
  Part 16 of the proof.
-/
import Derived.Test.YtkpbhdhkdonghaaGreatT11
set_option linter.all false
namespace Go.Proofs.YtkpbhdhkdonghaaGreat
open Go Go.RowKit
theorem extract_list {cs : Array Value} {off : Nat} (vs : List Value) (h : ∀ j u, vs[j]? = some u → cs[off + j]? = some u) (h0 : vs ≠ []) : cs.extract off (off + vs.length) = vs.toArray ∧ off + vs.length ≤ cs.size := by
  have hf : off + vs.length ≤ cs.size := by
    have hl : 0 < vs.length := List.length_pos_iff.2 h0
    have := h (vs.length - 1) vs[vs.length - 1] (List.getElem?_eq_getElem (by omega))
    have := (Array.getElem?_eq_some_iff.1 this).1
    omega
  refine ⟨?_, hf⟩
  apply Array.ext
  · simp; omega
  · intro i h1 h2
    have hi : i < vs.length := by simpa using h2
    have := h i vs[i] (List.getElem?_eq_getElem hi)
    obtain ⟨q, hq⟩ := Array.getElem?_eq_some_iff.1 this
    simp [hq]
section
variable {P : Program} {w0 w : World} {rs : List (Nat × Array Value)} {ss : List Sl} {o : Oper} {a : Act}
theorem ldn (i : Nat) (hm : Own w0 w rs ss) {ty : TypeId} {x : Operand} (ho : o.op = .load ty x) {g off : Nat} (hx : a.eval x = .pointer (some ⟨g, off, none⟩)) {cs : Array Value} (vs : List Value) (hi : rs[i]? = some (g, cs)) (h : ∀ j u, vs[j]? = some u → cs[off + j]? = some u) (h0 : vs ≠ []) (ht : AggTy P ty vs.length) :
    (execOp a.eval o).run P w = .ok (.value (.agg vs.toArray)) w := by
  obtain ⟨h1, h2⟩ := extract_list vs h h0
  have := exec_load (P := P) (off := off) ho hx (hm.row i hi) ht h2
  rwa [h1] at this
theorem ld2 (i : Nat) (hm : Own w0 w rs ss) {ty : TypeId} {x : Operand} (ho : o.op = .load ty x) {g off : Nat} (hx : a.eval x = .pointer (some ⟨g, off, none⟩)) {cs : Array Value} {u0 u1 : Value} (hi : rs[i]? = some (g, cs)) (ht : AggTy P ty 2) (h0 : cs[off]? = some u0) (h1 : cs[off + 1]? = some u1) :
    (execOp a.eval o).run P w = .ok (.value (.agg #[u0, u1])) w :=
  ldn i hm ho hx [u0, u1] hi (fun j u hj => by
    match j, hj with
    | 0, hj => simp at hj; subst hj; exact h0
    | 1, hj => simp at hj; subst hj; exact h1) (by simp) ht
end
def puts (cs : Array Value) : Nat → List Value → Array Value
  | _, [] => cs
  | o, v :: r => puts (cs.setIfInBounds o v) (o + 1) r
theorem get_puts : ∀ (vs : List Value) (cs : Array Value) (o i : Nat), (puts cs o vs)[i]? = if i < cs.size ∧ o ≤ i ∧ i < o + vs.length then vs[i - o]? else cs[i]?
  | [], cs, o, i => by rw [puts, if_neg (by rw [List.length_nil]; omega)]
  | v :: vs, cs, o, i => by
    rw [puts, get_puts vs]
    simp only [Array.size_setIfInBounds, List.length_cons]
    by_cases h1 : i < cs.size ∧ o + 1 ≤ i ∧ i < o + 1 + vs.length
    · rw [if_pos h1, if_pos (by omega), show i - o = (i - (o + 1)) + 1 by omega, List.getElem?_cons_succ]
    · rw [if_neg h1]
      by_cases h2 : i = o
      · subst h2
        by_cases h3 : i < cs.size
        · rw [if_pos (by omega), Nat.sub_self, List.getElem?_cons_zero, Array.getElem?_setIfInBounds_self_of_lt h3]
        · rw [if_neg (by omega), Array.getElem?_setIfInBounds]; simp [h3, Array.getElem?_eq_none (Nat.le_of_not_lt h3)]
      · rw [if_neg (by omega), Array.getElem?_setIfInBounds_ne (by omega)]
theorem splice_puts (cs : Array Value) (o : Nat) (vs : List Value) (h : o + vs.length ≤ cs.size) : splice cs o vs.toArray = puts cs o vs := by
  apply Array.ext_getElem?
  intro i
  rw [get_puts, splice]
  simp only [List.getElem?_toArray, List.size_toArray]
  by_cases h1 : i < cs.size ∧ o ≤ i ∧ i < o + vs.length
  · rw [if_pos h1, List.append_assoc, List.getElem?_append_right (by simp; omega), List.getElem?_append_left (by simp; omega)]
    congr 1; simp; omega
  · rw [if_neg h1]
    by_cases h2 : i < o
    · rw [List.append_assoc, List.getElem?_append_left (by simp; omega), List.getElem?_take_of_lt h2]; simp
    · by_cases h3 : i < cs.size
      · rw [List.getElem?_append_right (by simp; omega), List.getElem?_drop]; simp; congr 1; omega
      · rw [List.getElem?_eq_none (by simp; omega), Array.getElem?_eq_none (by omega)]
section
variable {P : Program} {w0 w : World} {rs : List (Nat × Array Value)} {ss : List Sl} {o : Oper} {a : Act} {K : Value → World → Prop}
theorem eff_put (i : Nat) (hm : Own w0 w rs ss) {ty : TypeId} {x y : Operand} (ho : o.op = .store ty x y) {g off : Nat} (hx : a.eval x = .pointer (some ⟨g, off, none⟩)) {vs : List Value} {cs : Array Value} (hy : a.eval y = .agg vs.toArray)
    (hi : rs[i]? = some (g, cs)) (ht : AggTy P ty vs.length) (hf : off + vs.length ≤ cs.size) (h1 : vs.all Value.oneCell' = true)
    (h : ∀ w', Own w0 w' (rs.set i (g, puts cs off vs)) ss → K undef w') : Eff P o a w K :=
  eff_storepart i hm ho hx hy hi (by simpa using ht) (by simpa using hf) (one_lit h1) (splice_puts cs off vs hf) h
end
end Go.Proofs.YtkpbhdhkdonghaaGreat

namespace Go.Proofs.YtkpbhdhkdonghaaGreat
open Go Go.RowKit
section
variable {P M M2 S : List Value} {off i n : Nat} {v : Value}
theorem get3 (hP : P.length = off) (hv : M[i]? = some v) : (P ++ (M ++ S)).toArray[off + i]? = some v := by
  subst hP
  have hi := (List.getElem?_eq_some_iff.1 hv).1
  rw [List.getElem?_toArray, List.getElem?_append_right (by omega), Nat.add_sub_cancel_left, List.getElem?_append_left hi, hv]
theorem set3 (hP : P.length = off) (hi : i < M.length) (v : Value) : (P ++ (M ++ S)).toArray.setIfInBounds (off + i) v = (P ++ (M.set i v ++ S)).toArray := by
  subst hP
  apply Array.ext'
  simp only [List.setIfInBounds_toArray]
  rw [List.set_append_right _ _ (by omega), Nat.add_sub_cancel_left, List.set_append_left _ _ hi]
theorem ext3 (hP : P.length = off) (hn : M.length = n) : (P ++ (M ++ S)).toArray.extract off (off + n) = M.toArray := by
  subst hP hn
  apply Array.ext'
  simp
end
end Go.Proofs.YtkpbhdhkdonghaaGreat

namespace Go.Proofs.YtkpbhdhkdonghaaGreat
open Go Go.RowKit
def But (w0 : World) (g : Nat) (rs : List (Nat × Array Value)) (ss : List Sl) (W : World) : Prop := ∃ cs, Own w0 W ((g, cs) :: rs) ss
theorem But.mk {w0 W : World} {g : Nat} {cs : Array Value} {rs : List (Nat × Array Value)} {ss : List Sl} (h : Own w0 W ((g, cs) :: rs) ss) : But w0 g rs ss W := ⟨cs, h⟩
theorem But.own {w0 W : World} {g : Nat} {rs : List (Nat × Array Value)} {ss : List Sl} (h : But w0 g rs ss W) : Own w0 W rs ss := by
  obtain ⟨cs, h⟩ := h
  exact h.dropRow
theorem wp_region_KB {P : Program} {Q : Exit → Act → World → Prop} {id : Nat} {l : List Oper} {a : Act} {w w0 : World} {g : Nat} {cs : Array Value} {rs : List (Nat × Array Value)} {ss : List Sl} (hO : Own w0 w ((g, cs) :: rs) ss) (k : Nat) (t : KT) (hm : P.follows .mixedOrders = true) (hs : Region.noSelect l.toArray = true) (hlen : t.depth = l.toArray.size)
    (hB : (!(Array.replicate l.toArray.size false).getD k false && okK l.toArray k (ancOf l.toArray k) (Array.replicate l.toArray.size false) t) = true) (hQ : ∀ c a d v w, Q (.panic c) (a.put d v) w → Q (.panic c) a w)
    (h : ∀ w', Own w0 w' ((g, cs) :: rs) ss → wpK P l.toArray Q t (But w0 g rs ss) a w') : (Code.region id l.toArray true).wp P Q a w :=
  wp_region_K k t _ hm hs hlen hB hQ ⟨_, hO.drawn _⟩ (h _ (hO.drawn _))
end Go.Proofs.YtkpbhdhkdonghaaGreat
