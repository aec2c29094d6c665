/-
  A region that draws its order, walked in ONE order that is typed: reads that yield the same in every world that meets S are taken as soon as they may come up; whatever else is done where nothing other may come up. No program in sight.
-/
import Derived.Test.YtaccjnekonmkoaaLaws
import Derived.OrdersHeld
import Derived.RegionTactic
namespace Go.Proofs.Ytaccjnekonmkoaa
open Go Go.RowKit
section
variable {P : Program} {ops : Array Oper} {Q : Exit → Act → World → Prop}

theorem wpAnyH_mono {md : Region.Mode} {S S' : World → Prop} (hs : ∀ W, S' W → S W) : ∀ (fuel : Nat) (listed : Array Bool) (a : Act) (w : World), wpAnyH P md ops Q S' fuel listed a w → wpAnyH P md ops Q S fuel listed a w
  | 0, _, _, _, h => h
  | fuel + 1, _, _, _, h => ⟨h.1, fun i hi => wpOp_mono (fun a' w' h' => ⟨hs _ h'.1, wpAnyH_mono hs fuel _ a' w' h'.2⟩) (h.2 i hi)⟩

/-- May this order be taken? -/
def ordOk (ops : Array Oper) : Array Bool → List (Nat × Bool) → Bool
  | listed, [] => (Region.ready .any ops listed).isEmpty
  | listed, (i, true) :: r => Region.free .any ops listed i && (Region.ready .any ops listed).contains i && ordOk ops (listed.setIfInBounds i true) r
  | listed, (i, false) :: r => (Region.ready .any ops listed == [i]) && ordOk ops (listed.setIfInBounds i true) r

/-- What is owed along a typed order. -/
def wpOrd (P : Program) (ops : Array Oper) (Q : Exit → Act → World → Prop) : List (Nat × Bool) → (World → Prop) → Act → World → Prop
  | [], _, a, w => Q .normal a w
  | (i, true) :: r, S, a, w => ∃ o v, ops[i]? = some o ∧ YieldsIf P ops S o v a ∧ wpOrd P ops Q r S (a.put o.dst v) w
  | (i, false) :: r, S, a, w => wpOp P ops Q i (fun a' w' => ∃ S' : World → Prop, (∀ W, S' W → S W) ∧ S' w' ∧ wpOrd P ops Q r S' a' w') a w

theorem wpOrd_sound (hs : Region.noSelect ops = true) (hQ : ∀ c a d v w, Q (.panic c) (a.put d v) w → Q (.panic c) a w) : ∀ (r : List (Nat × Bool)) (S : World → Prop) (listed : Array Bool) (a : Act) (w : World),
    ordOk ops listed r = true → S w → wpOrd P ops Q r S a w → wpAnyH P .any ops Q S r.length listed a w
  | [], _, _, _, _, hB, _, h => wpAnyH_done (by simpa [ordOk] using hB) h 0
  | (i, true) :: r, S, listed, a, w, hB, hS, h => by
    simp only [ordOk, Bool.and_eq_true] at hB
    obtain ⟨o, v, ho, hy, h⟩ := h
    exact wpAnyH_take ho hs hB.1.1 hB.1.2 (fun c a w => hQ c a o.dst v w) hy hS (wpOrd_sound hs hQ r S _ _ _ hB.2 hS h)
  | (i, false) :: r, S, listed, a, w, hB, hS, h => by
    simp only [ordOk, Bool.and_eq_true, beq_iff_eq] at hB
    refine wpAnyH_all hB.1 (by simp) fun j hj => ?_
    obtain rfl := List.mem_singleton.1 hj
    refine wpOp_mono ?_ h
    rintro a' w' ⟨S', h1, h2, h3⟩
    exact ⟨h1 _ h2, wpAnyH_mono h1 _ _ _ _ (wpOrd_sound hs hQ r S' _ _ _ hB.2 h2 h3)⟩

theorem wp_region_ord {id : Nat} {l : List Oper} {a : Act} {w : World} (r : List (Nat × Bool)) (S : World → Prop) (hm : P.follows .mixedOrders = true) (hs : Region.noSelect l.toArray = true) (hlen : r.length = l.toArray.size)
    (hB : ordOk l.toArray (Array.replicate l.toArray.size false) r = true) (hQ : ∀ c a d v w, Q (.panic c) (a.put d v) w → Q (.panic c) a w) (hS : S { w with drawn := w.drawn + 1 })
    (h : wpOrd P l.toArray Q r S a { w with drawn := w.drawn + 1 }) : (Code.region id l.toArray true).wp P Q a w :=
  wp_region_held hm (by have H := wpOrd_sound hs hQ r S _ a _ hB hS h; rw [hlen] at H; exact H)

theorem ord_nil {S : World → Prop} {a : Act} {w : World} (h : Q .normal a w) : wpOrd P ops Q [] S a w := h
theorem ord_read {i : Nat} {r : List (Nat × Bool)} {S : World → Prop} {a : Act} {w : World} {o : Oper} {v : Value} (ho : ops[i]? = some o) (hw : Region.wanted o (yielded ops a.tmps) = true)
    (hrun : ∀ W, S W → (execOp a.eval o).run P W = .ok (.value v) W) (h : wpOrd P ops Q r S (a.put o.dst v) w) : wpOrd P ops Q ((i, true) :: r) S a w :=
  ⟨o, v, ho, .inl ⟨hw, hrun⟩, h⟩
theorem ord_pass {i : Nat} {r : List (Nat × Bool)} {S : World → Prop} {a : Act} {w : World} {o : Oper} (ho : ops[i]? = some o) (hw : Region.wanted o (yielded ops a.tmps) = false)
    (h : wpOrd P ops Q r S (a.put o.dst undef) w) : wpOrd P ops Q ((i, true) :: r) S a w :=
  ⟨o, undef, ho, .inr ⟨hw, rfl⟩, h⟩
theorem ord_do {i : Nat} {r : List (Nat × Bool)} {S : World → Prop} {a : Act} {w : World} {o : Oper} (ho : ops[i]? = some o) (hw : Region.wanted o (yielded ops a.tmps) = true)
    (h : ∀ K : Act → World → Prop, (∀ a' w', (∃ S' : World → Prop, (∀ W, S' W → S W) ∧ S' w' ∧ wpOrd P ops Q r S' a' w') → K a' w') → o.wp P a w K Q) : wpOrd P ops Q ((i, false) :: r) S a w := by
  unfold wpOrd wpOp
  simp only [ho, hw, if_true]
  exact .inl (h _ fun _ _ h => h)
theorem ord_do_pass {i : Nat} {r : List (Nat × Bool)} {S : World → Prop} {a : Act} {w : World} {o : Oper} (ho : ops[i]? = some o) (hw : Region.wanted o (yielded ops a.tmps) = false) (hS : S w)
    (h : wpOrd P ops Q r S (a.put o.dst undef) w) : wpOrd P ops Q ((i, false) :: r) S a w := by
  unfold wpOrd wpOp
  simp only [ho, hw, Bool.false_eq_true, if_false]
  exact ⟨S, fun _ h => h, hS, h⟩
/-- The same with the same S. -/
theorem ord_run {i : Nat} {r : List (Nat × Bool)} {S : World → Prop} {a : Act} {w w' : World} {o : Oper} {v : Value} (ho : ops[i]? = some o) (hw : Region.wanted o (yielded ops a.tmps) = true)
    (hrun : (execOp a.eval o).run P w = .ok (.value v) w') (hS : S w') (h : wpOrd P ops Q r S (a.put o.dst v) w') : wpOrd P ops Q ((i, false) :: r) S a w :=
  ord_do ho hw fun K hK => by unfold Oper.wp; rw [hrun]; exact hK _ _ ⟨S, fun _ h => h, hS, h⟩
theorem ord_skips {i : Nat} {r : List (Nat × Bool)} {S : World → Prop} {a : Act} {w w' : World} {o : Oper} (ho : ops[i]? = some o) (hw : Region.wanted o (yielded ops a.tmps) = true)
    (hrun : (execOp a.eval o).run P w = .ok .skip w') (hS : S w') (h : wpOrd P ops Q r S (a.put o.dst undef) w') : wpOrd P ops Q ((i, false) :: r) S a w :=
  ord_do ho hw fun K hK => by unfold Oper.wp; rw [hrun]; exact hK _ _ ⟨S, fun _ h => h, hS, h⟩

/-! ### One place where two may come up, neither of them a read (a call, and a variable's allocation) -/
def ordOkB (ops : Array Oper) (i : Nat) (r1 : List (Nat × Bool)) (j : Nat) (r2 : List (Nat × Bool)) : Array Bool → List (Nat × Bool) → Bool
  | listed, [] => (Region.ready .any ops listed == [i, j]) && ordOk ops (listed.setIfInBounds i true) r1 && ordOk ops (listed.setIfInBounds j true) r2
  | listed, (k, true) :: r => Region.free .any ops listed k && (Region.ready .any ops listed).contains k && ordOkB ops i r1 j r2 (listed.setIfInBounds k true) r
  | listed, (k, false) :: r => (Region.ready .any ops listed == [k]) && ordOkB ops i r1 j r2 (listed.setIfInBounds k true) r
def wpOrdB (P : Program) (ops : Array Oper) (Q : Exit → Act → World → Prop) (i : Nat) (r1 : List (Nat × Bool)) (j : Nat) (r2 : List (Nat × Bool)) : List (Nat × Bool) → (World → Prop) → Act → World → Prop
  | [], S, a, w => wpOrd P ops Q ((i, false) :: r1) S a w ∧ wpOrd P ops Q ((j, false) :: r2) S a w
  | (k, true) :: r, S, a, w => ∃ o v, ops[k]? = some o ∧ YieldsIf P ops S o v a ∧ wpOrdB P ops Q i r1 j r2 r S (a.put o.dst v) w
  | (k, false) :: r, S, a, w => wpOp P ops Q k (fun a' w' => ∃ S' : World → Prop, (∀ W, S' W → S W) ∧ S' w' ∧ wpOrdB P ops Q i r1 j r2 r S' a' w') a w
theorem wpOrdB_sound (hs : Region.noSelect ops = true) (hQ : ∀ c a d v w, Q (.panic c) (a.put d v) w → Q (.panic c) a w) (i : Nat) (r1 : List (Nat × Bool)) (j : Nat) (r2 : List (Nat × Bool)) (hr : r2.length = r1.length) : ∀ (r : List (Nat × Bool)) (S : World → Prop) (listed : Array Bool) (a : Act) (w : World),
    ordOkB ops i r1 j r2 listed r = true → S w → wpOrdB P ops Q i r1 j r2 r S a w → wpAnyH P .any ops Q S (r.length + (r1.length + 1)) listed a w
  | [], S, listed, a, w, hB, hS, h => by
    simp only [ordOkB, Bool.and_eq_true, beq_iff_eq] at hB
    rw [List.length_nil, Nat.zero_add]
    refine wpAnyH_all hB.1.1 (by simp) fun k hk => ?_
    rcases List.mem_cons.1 hk with rfl | hk
    · refine wpOp_mono ?_ h.1
      rintro a' w' ⟨S', h1, h2, h3⟩
      exact ⟨h1 _ h2, wpAnyH_mono h1 _ _ _ _ (wpOrd_sound hs hQ r1 S' _ _ _ hB.1.2 h2 h3)⟩
    · obtain rfl := List.mem_singleton.1 hk
      refine wpOp_mono ?_ h.2
      rintro a' w' ⟨S', h1, h2, h3⟩
      rw [← hr]
      exact ⟨h1 _ h2, wpAnyH_mono h1 _ _ _ _ (wpOrd_sound hs hQ r2 S' _ _ _ hB.2 h2 h3)⟩
  | (k, true) :: r, S, listed, a, w, hB, hS, h => by
    simp only [ordOkB, Bool.and_eq_true] at hB
    obtain ⟨o, v, ho, hy, h⟩ := h
    rw [List.length_cons, Nat.add_right_comm]
    exact wpAnyH_take ho hs hB.1.1 hB.1.2 (fun c a w => hQ c a o.dst v w) hy hS (wpOrdB_sound hs hQ i r1 j r2 hr r S _ _ _ hB.2 hS h)
  | (k, false) :: r, S, listed, a, w, hB, hS, h => by
    simp only [ordOkB, Bool.and_eq_true, beq_iff_eq] at hB
    rw [List.length_cons, Nat.add_right_comm]
    refine wpAnyH_all hB.1 (by simp) fun m hm => ?_
    obtain rfl := List.mem_singleton.1 hm
    refine wpOp_mono ?_ h
    rintro a' w' ⟨S', h1, h2, h3⟩
    exact ⟨h1 _ h2, wpAnyH_mono h1 _ _ _ _ (wpOrdB_sound hs hQ i r1 j r2 hr r S' _ _ _ hB.2 h2 h3)⟩
theorem wp_region_ordB {id : Nat} {l : List Oper} {a : Act} {w : World} (r : List (Nat × Bool)) (i : Nat) (r1 : List (Nat × Bool)) (j : Nat) (r2 : List (Nat × Bool)) (S : World → Prop) (hm : P.follows .mixedOrders = true) (hs : Region.noSelect l.toArray = true) (hr : r2.length = r1.length)
    (hlen : r.length + (r1.length + 1) = l.toArray.size) (hB : ordOkB l.toArray i r1 j r2 (Array.replicate l.toArray.size false) r = true) (hQ : ∀ c a d v w, Q (.panic c) (a.put d v) w → Q (.panic c) a w) (hS : S { w with drawn := w.drawn + 1 })
    (h : wpOrdB P l.toArray Q i r1 j r2 r S a { w with drawn := w.drawn + 1 }) : (Code.region id l.toArray true).wp P Q a w :=
  wp_region_held hm (by have H := wpOrdB_sound hs hQ i r1 j r2 hr r S _ a _ hB hS h; rw [hlen] at H; exact H)
theorem ordB_read {i j k : Nat} {r1 r2 r : List (Nat × Bool)} {S : World → Prop} {a : Act} {w : World} {o : Oper} {v : Value} (ho : ops[k]? = some o) (hw : Region.wanted o (yielded ops a.tmps) = true)
    (hrun : ∀ W, S W → (execOp a.eval o).run P W = .ok (.value v) W) (h : wpOrdB P ops Q i r1 j r2 r S (a.put o.dst v) w) : wpOrdB P ops Q i r1 j r2 ((k, true) :: r) S a w :=
  ⟨o, v, ho, .inl ⟨hw, hrun⟩, h⟩
theorem ordB_split {i j : Nat} {r1 r2 : List (Nat × Bool)} {S : World → Prop} {a : Act} {w : World} (h1 : wpOrd P ops Q ((i, false) :: r1) S a w) (h2 : wpOrd P ops Q ((j, false) :: r2) S a w) : wpOrdB P ops Q i r1 j r2 [] S a w := ⟨h1, h2⟩
end
end Go.Proofs.Ytaccjnekonmkoaa
