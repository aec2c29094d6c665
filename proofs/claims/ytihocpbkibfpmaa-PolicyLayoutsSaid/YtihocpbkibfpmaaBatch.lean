/-
  A region that draws its order, of which one part may come up in any order whatever (each operation of it keeps an invariant over what is still to come), a typed order ahead of it and one behind it. No program in sight.
-/
import Derived.Test.YtihocpbkibfpmaaOrd
namespace Go.Proofs.Ytihocpbkibfpmaa
open Go Go.RowKit
section
variable {P : Program} {ops : Array Oper} {Q : Exit → Act → World → Prop}

/-- May the rests in SS come up in any order? L tells what is listed where a rest is still to come. -/
def batchOk (ops : Array Oper) (SS : List (List Nat)) (L : List Nat → Array Bool) : Bool :=
  SS.all fun rem => rem == [] || (Region.ready .any ops (L rem) == rem && rem.all fun i => SS.contains (rem.erase i) && ((L rem).setIfInBounds i true == L (rem.erase i)) && ((rem.erase i).length + 1 == rem.length))

theorem batch {SS : List (List Nat)} {L : List Nat → Array Bool} (hck : batchOk ops SS L = true) {S : World → Prop} (inv : List Nat → World → Prop) (hS : ∀ rem w, inv rem w → S w) {a : Act} {fuel : Nat}
    (hstep : ∀ rem ∈ SS, ∀ i ∈ rem, ∀ w, inv rem w → wpOp P ops Q i (fun a' w' => a' = a ∧ inv (rem.erase i) w') a w)
    (hend : ∀ w, inv [] w → wpAnyH P .any ops Q S fuel (L []) a w) : ∀ (n : Nat) (rem : List Nat), rem ∈ SS → rem.length = n → ∀ w, inv rem w → wpAnyH P .any ops Q S (n + fuel) (L rem) a w
  | 0, rem, _, hn, w, hw => by
    obtain rfl := List.length_eq_zero_iff.1 hn
    rw [Nat.zero_add]
    exact hend w hw
  | n + 1, rem, hr, hn, w, hw => by
    have hc := List.all_eq_true.1 hck rem hr
    have hne : rem ≠ [] := by rintro rfl; cases hn
    simp only [Bool.or_eq_true, beq_iff_eq, hne, false_or, Bool.and_eq_true, List.all_eq_true] at hc
    rw [Nat.add_right_comm]
    refine wpAnyH_all hc.1 hne fun i hi => ?_
    obtain ⟨⟨h1, h2⟩, h3⟩ := hc.2 i hi
    refine wpOp_mono ?_ (hstep rem hr i hi w hw)
    rintro a' w' ⟨rfl, hw'⟩
    refine ⟨hS _ _ hw', ?_⟩
    rw [h2]
    exact batch hck inv hS hstep hend n _ (List.contains_iff_mem.1 h1) (by omega) w' hw'

def ordOkC (ops : Array Oper) (L0 : Array Bool) : Array Bool → List (Nat × Bool) → Bool
  | listed, [] => listed == L0
  | listed, (k, true) :: r => Region.free .any ops listed k && (Region.ready .any ops listed).contains k && ordOkC ops L0 (listed.setIfInBounds k true) r
  | listed, (k, false) :: r => (Region.ready .any ops listed == [k]) && ordOkC ops L0 (listed.setIfInBounds k true) r
def wpOrdC (P : Program) (ops : Array Oper) (Q : Exit → Act → World → Prop) (C : (World → Prop) → Act → World → Prop) : List (Nat × Bool) → (World → Prop) → Act → World → Prop
  | [], S, a, w => C S a w
  | (k, true) :: r, S, a, w => ∃ o v, ops[k]? = some o ∧ YieldsIf P ops S o v a ∧ wpOrdC P ops Q C r S (a.put o.dst v) w
  | (k, false) :: r, S, a, w => wpOp P ops Q k (fun a' w' => ∃ S' : World → Prop, (∀ W, S' W → S W) ∧ S' w' ∧ wpOrdC P ops Q C r S' a' w') a w
theorem wpOrdC_sound (hs : Region.noSelect ops = true) (hQ : ∀ c a d v w, Q (.panic c) (a.put d v) w → Q (.panic c) a w) {L0 : Array Bool} {fuel : Nat} {C : (World → Prop) → Act → World → Prop} (hC : ∀ S a w, S w → C S a w → wpAnyH P .any ops Q S fuel L0 a w) : ∀ (r : List (Nat × Bool)) (S : World → Prop) (listed : Array Bool) (a : Act) (w : World),
    ordOkC ops L0 listed r = true → S w → wpOrdC P ops Q C r S a w → wpAnyH P .any ops Q S (r.length + fuel) listed a w
  | [], S, listed, a, w, hB, hS, h => by
    simp only [ordOkC, beq_iff_eq] at hB
    rw [List.length_nil, Nat.zero_add, hB]
    exact hC S a w hS h
  | (k, true) :: r, S, listed, a, w, hB, hS, h => by
    simp only [ordOkC, Bool.and_eq_true] at hB
    obtain ⟨o, v, ho, hy, h⟩ := h
    rw [List.length_cons, Nat.add_right_comm]
    exact wpAnyH_take ho hs hB.1.1 hB.1.2 (fun c a w => hQ c a o.dst v w) hy hS (wpOrdC_sound hs hQ hC r S _ _ _ hB.2 hS h)
  | (k, false) :: r, S, listed, a, w, hB, hS, h => by
    simp only [ordOkC, Bool.and_eq_true, beq_iff_eq] at hB
    rw [List.length_cons, Nat.add_right_comm]
    refine wpAnyH_all hB.1 (by simp) fun m hm => ?_
    obtain rfl := List.mem_singleton.1 hm
    refine wpOp_mono ?_ h
    rintro a' w' ⟨S', h1, h2, h3⟩
    exact ⟨h1 _ h2, wpAnyH_mono h1 _ _ _ _ (wpOrdC_sound hs hQ hC r S' _ _ _ hB.2 h2 h3)⟩

/-- What is owed where the batch begins: an invariant, each step, and the order behind. -/
def wpBatch (P : Program) (ops : Array Oper) (Q : Exit → Act → World → Prop) (SS : List (List Nat)) (B : List Nat) (r2 : List (Nat × Bool)) (S : World → Prop) (a : Act) (w : World) : Prop :=
  ∃ inv : List Nat → World → Prop, (∀ rem w, inv rem w → S w) ∧ inv B w ∧ (∀ rem ∈ SS, ∀ i ∈ rem, ∀ w, inv rem w → wpOp P ops Q i (fun a' w' => a' = a ∧ inv (rem.erase i) w') a w) ∧ (∀ w, inv [] w → wpOrd P ops Q r2 S a w)
theorem wp_region_batch {id : Nat} {l : List Oper} {a : Act} {w : World} (r : List (Nat × Bool)) (SS : List (List Nat)) (L : List Nat → Array Bool) (B : List Nat) (r2 : List (Nat × Bool)) (S : World → Prop) (hm : P.follows .mixedOrders = true) (hs : Region.noSelect l.toArray = true)
    (hlen : r.length + (B.length + r2.length) = l.toArray.size) (hck : batchOk l.toArray SS L = true) (hBS : SS.contains B = true) (hB : ordOkC l.toArray (L B) (Array.replicate l.toArray.size false) r = true) (hB2 : ordOk l.toArray (L []) r2 = true)
    (hQ : ∀ c a d v w, Q (.panic c) (a.put d v) w → Q (.panic c) a w) (hS : S { w with drawn := w.drawn + 1 })
    (h : wpOrdC P l.toArray Q (wpBatch P l.toArray Q SS B r2) r S a { w with drawn := w.drawn + 1 }) : (Code.region id l.toArray true).wp P Q a w := by
  refine wp_region_held (S := S) hm ?_
  have H := wpOrdC_sound (L0 := L B) (fuel := B.length + r2.length) hs hQ (fun S a w _ hc => ?_) r S _ a _ hB hS h
  · rw [hlen] at H; exact H
  · obtain ⟨inv, h1, h2, h3, h4⟩ := hc
    exact batch hck inv h1 h3 (fun w hw => wpOrd_sound hs hQ r2 S _ _ _ hB2 (h1 _ _ hw) (h4 w hw)) _ B (List.contains_iff_mem.1 hBS) rfl w h2
end
end Go.Proofs.Ytihocpbkibfpmaa
