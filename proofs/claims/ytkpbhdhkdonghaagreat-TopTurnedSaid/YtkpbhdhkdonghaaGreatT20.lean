/-
  Part 20 of the proof.
-/
import Derived.Test.YtkpbhdhkdonghaaGreatT14
import Derived.Test.YtkpbhdhkdonghaaGreatT19
set_option linter.all false
namespace Go.Proofs.YtkpbhdhkdonghaaGreat
open Go Go.RowKit
open Go.Sort
def flat (l : List Pr) : List Value := l.flatMap enP
theorem flat_cons (a : Pr) (l : List Pr) : flat (a :: l) = .int .i64 a.1 :: .int .i64 a.2 :: flat l := rfl
theorem len_flat : ∀ l : List Pr, (flat l).length = l.length * 2
  | [] => rfl
  | a :: l => by rw [flat_cons]; simp [len_flat l]; omega
theorem flat_at : ∀ (l : List Pr) (i : Nat), i < l.length → (flat l)[i * 2]? = some (.int .i64 (gp l i).1) ∧ (flat l)[i * 2 + 1]? = some (.int .i64 (gp l i).2)
  | [], i, h => by simp at h
  | a :: l, 0, _ => by rw [flat_cons]; exact ⟨rfl, rfl⟩
  | a :: l, i + 1, h => by
    have ih := flat_at l i (by simpa using h)
    rw [flat_cons, show (i + 1) * 2 = i * 2 + 1 + 1 by omega, List.getElem?_cons_succ, List.getElem?_cons_succ, List.getElem?_cons_succ, List.getElem?_cons_succ, ih.1, ih.2]
    simp [gp]
theorem flat_cell (l : List Pr) (t : Nat) (h : t < l.length * 2) : (flat l)[t]? = some ((enP (gp l (t / 2)))[t % 2]!) := by
  have h1 := flat_at l (t / 2) (by omega)
  rcases Nat.mod_two_eq_zero_or_one t with e | e
  · rw [e, show t = t / 2 * 2 by omega, h1.1]
    simp [enP]
  · rw [e]
    have : t / 2 * 2 + 1 = t := by omega
    rw [this] at h1
    rw [h1.2]; rfl
theorem gp_bang (l : List Pr) (i : Nat) (h : i < l.length) : l.toArray[i]! = gp l i := by
  simp [gp, h]
theorem flatK_at (l : List Pr) (t : Nat) (h : t < l.length * 2) : (flat l)[t]? = some (flatK enP 2 l.toArray)[t]! := by
  rw [get_flatK _ _ _ _ (by simpa using h), gp_bang l (t / 2) (by omega)]
  exact flat_cell l t h
theorem one_flat (l : List Pr) : ∀ v ∈ flat l, v.oneCell' = true := by
  intro v hv
  obtain ⟨a, _, ha⟩ := List.mem_flatMap.1 hv
  simp [enP] at ha
  rcases ha with rfl | rfl <;> rfl
theorem Below.grows (w : World) (os : Array Obj) : Below w.heap.size w (grow w os) := ⟨rfl, rfl, rfl, by simp [grow], fun k hk => by
  show (w.heap ++ os)[k]? = _
  rw [Array.getElem?_append_left hk]⟩
theorem setMany_all (F : Array Value) (l : List Pr) (h : F.size = l.length * 2) : setMany F 0 (flat l) = flatK enP 2 l.toArray := by
  apply Array.ext
  · rw [size_setMany, size_flatK, h]; simp
  · intro t h1 h2
    rw [size_setMany] at h1
    have e1 := get_setMany (flat l) 0 F t h1
    have e2 := flatK_at l t (by omega)
    rw [if_pos ⟨by omega, by rw [len_flat]; omega⟩, Nat.sub_zero] at e1
    have e3 : (flat l)[t]? = some ((flat l)[t]!) := by rw [List.getElem?_eq_getElem (by rw [len_flat]; omega)]; simp [List.getElem!_eq_getElem?_getD, show t < (flat l).length by rw [len_flat]; omega]
    rw [e3] at e2
    have e4 := Option.some.inj e2
    rw [← e1] at e4
    have a1 : (setMany F 0 (flat l))[t]! = (setMany F 0 (flat l))[t]'(by rw [size_setMany]; exact h1) := by rw [getElem!_pos]
    have a2 : (flatK enP 2 l.toArray)[t]! = (flatK enP 2 l.toArray)[t] := by rw [getElem!_pos]
    rw [a1, a2] at e4
    exact e4
section
variable {w0 w : World} {rs : List (Nat × Array Value)} {ss : List Sl} {g p n c : Nat} {cells : Array Value} {l : List Pr}
theorem Lies.holdsK (hX : Lies 2 [(g, cells)] (.slice (some ⟨g, p, none⟩) n c) n (flat l)) (hr : RowIs w g cells) : HoldsK enP 2 w g p l.toArray := by
  intro j hj
  have hj2 : j < l.length * 2 := by simpa using hj
  rw [hr.cell, hr.free, hX.cell (flatK_at l j hj2)]
  exact ⟨rfl, rfl⟩
theorem Own.sorted (hm : Own w0 w ((g, cells) :: rs) ss) (hX : Lies 2 [(g, cells)] (.slice (some ⟨g, p, none⟩) n c) n (flat l)) {l' : List Pr} (hl : l'.length = l.length) (q : Nat) (os : Array Obj) : ∃ cells', Lies 2 [(g, cells')] (.slice (some ⟨g, p, none⟩) n c) n (flat l') ∧ Own w0 (sortWorldK enP 2 w g p q l'.toArray os) ((g, cells') :: rs) ss := by
  have hm1 : Own w0 (Sort.ahead w q) ((g, cells) :: rs) ss := hm.drawn (w.drawn + q)
  have hH := hX.holdsK (hm1.row 0 rfl)
  have e1 := setCells_putRow (Sort.ahead w q) g p (flat l') 0 (flatK enP 2 l.toArray) (by rw [size_flatK, len_flat, hl]; simp)
  rw [setMany_all _ _ (by rw [size_flatK, hl]; simp), putRow_self id _ g p _ hH, Nat.add_zero] at e1
  have hn : l.length = n := by have := hX.1; rw [len_flat] at this; omega
  have h2 := Own.setCells 0 (flat l') p (Sort.ahead w q) _ cells hm1 rfl
  rw [e1] at h2
  refine ⟨putAll cells p (flat l'), ?_, h2.call (Below.grows _ os)⟩
  rcases hX.2 with ⟨e, _⟩ | ⟨g', p', c', cells', e2, e3, hc, hs, hcells⟩
  · cases e
  · cases e2; cases e3
    have hfit : p + (flat l').length ≤ cells.size := by
      have : n * 2 ≤ c * 2 := Nat.mul_le_mul_right 2 hc
      rw [len_flat, hl, hn]; omega
    refine Lies.of_row (by rw [len_flat, hl, hn]) hc (by rw [size_putAll]; exact hs) fun j hj => ?_
    rw [get_putAll _ _ _ _ hfit, if_pos (by omega), show p + j - p = j by omega]
end
theorem cmpLays205 (blk off size : Nat) (w : World) : CmpLays Tryz.prog 205 #[] enP 2 cf blk off size w := fun _ _ _ _ x y => closure205 x y _
set_option maxHeartbeats 1000000 in
theorem sort204 {w0 w : World} {rs : List (Nat × Array Value)} {ss : List Sl} {g p n c : Nat} {cells : Array Value} {l : List Pr} (hm : Own w0 w ((g, cells) :: rs) ss) (hX : Lies 2 [(g, cells)] (.slice (some ⟨g, p, none⟩) n c) n (flat l)) (hn : n ≤ 1000000) : Calls Tryz.prog 204 #[.slice (some ⟨g, p, none⟩) n c, .func (.func 205) #[] #[]] w fun e w' => e = .returned (.tuple #[]) ∧ ∃ (l' : List Pr) (cells' : Array Value), l'.Perm l ∧ l'.Pairwise (fun a b => plt b a = false) ∧ Lies 2 [(g, cells')] (.slice (some ⟨g, p, none⟩) n c) n (flat l') ∧ Own w0 w' ((g, cells') :: rs) ss := by
  have eg : ∀ args w, (callFunc 205 args).run Tryz.prog w = .ok (.enter 205 args) w := enters_of Tryz.func205 (by kernel_rfl) rfl
  have hl : l.length = n := by have := hX.1; rw [len_flat] at this; omega
  have hr := hm.row 0 rfl
  have hcon := AnyQ.slices_SortFunc sortPr 2 Tryz.isAgg241 Tryz.sizeOf241 enP (fun _ => rfl) (fun x v hv => by simp [enP] at hv; rcases hv with rfl | rfl <;> rfl) cf cf_swo 205 #[] g p c l.toArray w eg (cmpLays205 g p _ w) (hX.holdsK hr) hr.lt (by simp; omega)
  have hsz0 : l.toArray.size = n := by simpa using hl
  rw [hsz0] at hcon
  change Calls Tryz.prog 204 _ _ _ at hcon
  refine hcon.mono ?_
  rintro e w' ⟨rfl, d', q, os, ⟨hsz, _, hp⟩, hs, rfl⟩
  obtain ⟨l', rfl⟩ : ∃ l' : List Pr, d' = l'.toArray := ⟨d'.toList, by simp⟩
  have hl' : l'.length = l.length := by simpa using hsz
  obtain ⟨cells', h1, h2⟩ := hm.sorted hX hl' q os
  refine ⟨rfl, l', cells', ?_, ?_, h1, h2⟩
  · have e1 : (l'.toArray.extract 0 n).toList = l' := by simp; exact List.take_of_length_le (by omega)
    have e2 : (l.toArray.extract 0 n).toList = l := by simp; exact List.take_of_length_le (by omega)
    rw [e1, e2] at hp
    exact hp
  · rw [List.pairwise_iff_getElem]
    intro i j hi hj hij
    have := hs i j (by omega) hij (by omega)
    rw [cf_lt, gp_bang _ _ hj, gp_bang _ _ hi, gp_eq _ _ hj, gp_eq _ _ hi] at this
    exact this
end Go.Proofs.YtkpbhdhkdonghaaGreat
