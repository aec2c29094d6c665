/-
  The frame's own parts: a decoder's state that came in; a slice of integers that may be appended.
-/
import Derived.Test.YtaccjnekonmkoaaFrameE
import Derived.Test.YtaccjnekonmkoaaSdA
namespace Go.Proofs.Ytaccjnekonmkoaa
open Go Go.RowKit Go.ChangeShapes Go.WideShapes Go.ChangeAt

theorem trod_struct5 {H : Type} {enc : TypeId × Value → H} {P : Program} {w : World} {base : Nat} {spare : Nat → Bool} {held : Bool} {t : TypeId} {f0 f1 f2 f3 f4 : Field} {fuel : Nat} {cs : List Value} {x : DataW H × List MemPlace} (ht : P.underlying t = some (.struct #[f0, f1, f2, f3, f4])) (h : DataW.trod enc P w base spare held fuel t cs = some x) :
    ∃ y0 y1 y2 y3 y4 n, cs.length = P.cellsOf t ∧ DataW.trod enc P w base spare held n f0.type ((cs.drop f0.offset).take (P.cellsOf f0.type)) = some y0 ∧
      DataW.trod enc P w base spare held n f1.type ((cs.drop f1.offset).take (P.cellsOf f1.type)) = some y1 ∧ DataW.trod enc P w base spare held n f2.type ((cs.drop f2.offset).take (P.cellsOf f2.type)) = some y2 ∧
      DataW.trod enc P w base spare held n f3.type ((cs.drop f3.offset).take (P.cellsOf f3.type)) = some y3 ∧ DataW.trod enc P w base spare held n f4.type ((cs.drop f4.offset).take (P.cellsOf f4.type)) = some y4 := by
  obtain ⟨xs, n, _, rfl, hl, hlen, hf⟩ := DataW.trod_struct ht h
  match xs, hlen with
  | [y0, y1, y2, y3, y4], _ => exact ⟨y0, y1, y2, y3, y4, n, hl, by simpa using hf 0 f0 rfl, by simpa using hf 1 f1 rfl, by simpa using hf 2 f2 rfl, by simpa using hf 3 f3 rfl, by simpa using hf 4 f4 rfl⟩
theorem drop_one (L : List Value) (n : Nat) (v : Value) (h : (L.drop n).take 1 = [v]) : L.drop n = v :: L.drop (n + 1) := by
  have e := (List.take_append_drop 1 (L.drop n)).symm
  rw [h, List.drop_drop] at e
  exact e
theorem open_st70 {H : Type} {enc : TypeId × Value → H} {W : World} {base : Nat} {sp : Nat → Bool} {held : Bool} {v : Value} {d : DataW H} {p : List MemPlace} (hd : DataW.Trod enc Try.prog W base sp held 70 v d p) :
    ∃ b : DS, v = .agg (V b) ∧ b.l.length = 256 ∧ Bytes b.l := by
  obtain ⟨fuel, hf⟩ := hd
  obtain ⟨y0, y1, y2, y3, y4, n, hlen, h0, h1, h2, h3, h4⟩ := trod_struct5 Try.underlying70 hf
  have c70 : Try.prog.cellsOf 70 = 260 := by kernel_rfl
  have c23 : Try.prog.cellsOf 23 = 256 := by kernel_rfl
  have c3 : Try.prog.cellsOf 3 = 1 := by kernel_rfl
  have c4 : Try.prog.cellsOf 4 = 1 := by kernel_rfl
  rw [c70] at hlen
  obtain ⟨l, e0, hl, hb⟩ := list_cells h0
  obtain ⟨r1, e1, _, _⟩ := DataW.trod_int Try.underlying3 h1
  obtain ⟨r2, e2, _, _⟩ := DataW.trod_int Try.underlying3 h2
  obtain ⟨r3, e3, _, _⟩ := DataW.trod_int Try.underlying3 h3
  obtain ⟨r4, e4, _⟩ := DataW.trod_bool Try.underlying4 h4
  simp only [c23, c3, c4, List.drop_zero] at e0 e1 e2 e3 e4
  have hsplit : v.cells.toList = vs .u8 l ++ [.int .i64 r1, .int .i64 r2, .int .i64 r3, .bool r4] := by
    have hend : v.cells.toList.drop 260 = [] := List.drop_of_length_le (by omega)
    rw [← e0, ← List.take_append_drop 256 v.cells.toList, drop_one _ _ _ e1, drop_one _ _ _ e2, drop_one _ _ _ e3, drop_one _ _ _ e4, hend, List.take_append_of_le_length (by rw [List.length_take]; omega), List.take_take]
    rfl
  refine ⟨⟨l, r1, r2, r3, r4⟩, ?_, hl, hb⟩
  cases v with
  | agg cs =>
    have h : cs.toList = vs .u8 l ++ [.int .i64 r1, .int .i64 r2, .int .i64 r3, .bool r4] := hsplit
    rw [V, X, DS.tl]
    simp only
    rw [← h]
  | _ => exact absurd hlen (by simp [Value.cells])
theorem open_sl39s {H : Type} {enc : TypeId × Value → H} {W : World} {base : Nat} {sp : Nat → Bool} {held : Bool} {v : Value} {d : DataW H} {p : List MemPlace} {r : Reach} {b0 : Nat} (hok : Value.okWide Try.prog W r b0 39 v) (hd : DataW.Trod enc Try.prog W base sp held 39 v d p) :
    ∃ l, Src W v (vs .i64 l) ∧ True ∧ l.length ≤ maxLen := by
  obtain ⟨ad, len, cap, rfl⟩ := okWide_slice Try.underlying39 hok
  obtain ⟨fuel, hf⟩ := hd
  rcases open_ints Try.underlying39 Try.underlying3 (by kernel_rfl) hf with ⟨hcs, _⟩ | ⟨x, l, c, zs, hcs, _, hl, hm, hz, _, hcell, hwz⟩
  · simp [Value.cells] at hcs
    obtain ⟨rfl, rfl, rfl⟩ := hcs
    exact ⟨[], .inl ⟨rfl, rfl⟩, trivial, by simp⟩
  · simp [Value.cells] at hcs
    obtain ⟨rfl, rfl, rfl⟩ := hcs
    have hlz : len ≤ zs.length := by rw [hz]; split <;> omega
    have ht : (zs.take len).length = len := by rw [List.length_take]; omega
    refine ⟨zs.take len, .inr ⟨x, cap, by rw [length_vs, ht], fun j u hj => ?_⟩, trivial, by omega⟩
    have hjl : j < (zs.take len).length := by
      have := (List.getElem?_eq_some_iff.1 hj).1
      rwa [length_vs] at this
    have e := hj
    rw [vs, List.getElem?_map, List.getElem?_eq_getElem hjl] at e
    simp only [Option.map_some, Option.some.injEq] at e
    have hz2 : j < zs.length := by omega
    rw [← e, hcell j hz2]
    simp [List.getElem?_eq_getElem hz2]
end Go.Proofs.Ytaccjnekonmkoaa
