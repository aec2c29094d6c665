/-
  Part 5 of the proof.
-/
import Derived.OrdersHeld
import Derived.RegionTactic
import Derived.Test.YtkpbhdhkdonghaaGreatT01
set_option linter.all false
namespace Go.Proofs.YtkpbhdhkdonghaaGreat
open Go Go.RowKit
section
variable {P : Program} {ops : Array Oper} {Q : Exit → Act → World → Prop}
theorem wpAnyH_mono {md : Region.Mode} {S S' : World → Prop} (hs : ∀ W, S' W → S W) : ∀ (fuel : Nat) (listed : Array Bool) (a : Act) (w : World), wpAnyH P md ops Q S' fuel listed a w → wpAnyH P md ops Q S fuel listed a w
  | 0, _, _, _, h => h
  | fuel + 1, _, _, _, h => ⟨h.1, fun i hi => wpOp_mono (fun a' w' h' => ⟨hs _ h'.1, wpAnyH_mono hs fuel _ a' w' h'.2⟩) (h.2 i hi)⟩
def ordOk (ops : Array Oper) : Array Bool → List (Nat × Bool) → Bool
  | listed, [] => (Region.ready .any ops listed).isEmpty
  | listed, (i, true) :: r => Region.free .any ops listed i && (Region.ready .any ops listed).contains i && ordOk ops (listed.setIfInBounds i true) r
  | listed, (i, false) :: r => (Region.ready .any ops listed == [i]) && ordOk ops (listed.setIfInBounds i true) r
def wpOrd (P : Program) (ops : Array Oper) (Q : Exit → Act → World → Prop) : List (Nat × Bool) → (World → Prop) → Act → World → Prop
  | [], _, a, w => Q .normal a w
  | (i, true) :: r, S, a, w => ∃ o v, ops[i]? = some o ∧ YieldsIf P ops S o v a ∧ wpOrd P ops Q r S (a.put o.dst v) w
  | (i, false) :: r, S, a, w => wpOp P ops Q i (fun a' w' => ∃ S' : World → Prop, (∀ W, S' W → S W) ∧ S' w' ∧ wpOrd P ops Q r S' a' w') a w
theorem wpOrd_sound (hs : Region.noSelect ops = true) (hQ : ∀ c a d v w, Q (.panic c) (a.put d v) w → Q (.panic c) a w) : ∀ (r : List (Nat × Bool)) (S : World → Prop) (listed : Array Bool) (a : Act) (w : World),
    ordOk ops listed r = true → S w → wpOrd P ops Q r S a w → wpAnyH P .any ops Q S r.length listed a w
  | [], _, _, _, _, hB, _, h => wpAnyH_done (by simpa [ordOk] using hB) h 0
  | (i, true) :: r, S, listed, a, w, hB, hS, h => by
    simp only [ordOk, Bool.and_eq_true] at hB
    obtain ⟨o, v, ho, hy, h⟩ := h
    exact wpAnyH_take ho hs hB.1.1 hB.1.2 (fun c a w => hQ c a o.dst v w) hy hS (wpOrd_sound hs hQ r S _ _ _ hB.2 hS h)
  | (i, false) :: r, S, listed, a, w, hB, hS, h => by
    simp only [ordOk, Bool.and_eq_true, beq_iff_eq] at hB
    refine wpAnyH_all hB.1 (by simp) fun j hj => ?_
    obtain rfl := List.mem_singleton.1 hj
    refine wpOp_mono ?_ h
    rintro a' w' ⟨S', h1, h2, h3⟩
    exact ⟨h1 _ h2, wpAnyH_mono h1 _ _ _ _ (wpOrd_sound hs hQ r S' _ _ _ hB.2 h2 h3)⟩
theorem wp_region_ord {id : Nat} {l : List Oper} {a : Act} {w : World} (r : List (Nat × Bool)) (S : World → Prop) (hm : P.follows .mixedOrders = true) (hs : Region.noSelect l.toArray = true) (hlen : r.length = l.toArray.size)
    (hB : ordOk l.toArray (Array.replicate l.toArray.size false) r = true) (hQ : ∀ c a d v w, Q (.panic c) (a.put d v) w → Q (.panic c) a w) (hS : S { w with drawn := w.drawn + 1 })
    (h : wpOrd P l.toArray Q r S a { w with drawn := w.drawn + 1 }) : (Code.region id l.toArray true).wp P Q a w :=
  wp_region_held hm (by have H := wpOrd_sound hs hQ r S _ a _ hB hS h; rw [hlen] at H; exact H)
theorem ord_nil {S : World → Prop} {a : Act} {w : World} (h : Q .normal a w) : wpOrd P ops Q [] S a w := h
theorem ord_read {i : Nat} {r : List (Nat × Bool)} {S : World → Prop} {a : Act} {w : World} {o : Oper} {v : Value} (ho : ops[i]? = some o) (hw : Region.wanted o (yielded ops a.tmps) = true)
    (hrun : ∀ W, S W → (execOp a.eval o).run P W = .ok (.value v) W) (h : wpOrd P ops Q r S (a.put o.dst v) w) : wpOrd P ops Q ((i, true) :: r) S a w :=
  ⟨o, v, ho, .inl ⟨hw, hrun⟩, h⟩
theorem ord_do {i : Nat} {r : List (Nat × Bool)} {S : World → Prop} {a : Act} {w : World} {o : Oper} (ho : ops[i]? = some o) (hw : Region.wanted o (yielded ops a.tmps) = true)
    (h : ∀ K : Act → World → Prop, (∀ a' w', (∃ S' : World → Prop, (∀ W, S' W → S W) ∧ S' w' ∧ wpOrd P ops Q r S' a' w') → K a' w') → o.wp P a w K Q) : wpOrd P ops Q ((i, false) :: r) S a w := by
  unfold wpOrd wpOp
  simp only [ho, hw, if_true]
  exact .inl (h _ fun _ _ h => h)
theorem ord_run {i : Nat} {r : List (Nat × Bool)} {S : World → Prop} {a : Act} {w w' : World} {o : Oper} {v : Value} (ho : ops[i]? = some o) (hw : Region.wanted o (yielded ops a.tmps) = true)
    (hrun : (execOp a.eval o).run P w = .ok (.value v) w') (hS : S w') (h : wpOrd P ops Q r S (a.put o.dst v) w') : wpOrd P ops Q ((i, false) :: r) S a w :=
  ord_do ho hw fun K hK => by unfold Oper.wp; rw [hrun]; exact hK _ _ ⟨S, fun _ h => h, hS, h⟩
end
end Go.Proofs.YtkpbhdhkdonghaaGreat
