/-
  The frame's own parts: an encoder's state that came in.
-/
import Derived.Test.YtaccjnekonmkoaaFrameC
import Derived.Test.YtaccjnekonmkoaaSt
namespace Go.Proofs.Ytaccjnekonmkoaa
open Go Go.RowKit Go.ChangeShapes Go.WideShapes Go.ChangeAt

theorem list_cells {H : Type} {enc : TypeId × Value → H} {W : World} {base : Nat} {sp : Nat → Bool} {held : Bool} {fuel : Nat} {cs : List Value} {y : DataW H × List MemPlace} (hf : DataW.trod enc Try.prog W base sp held fuel 23 cs = some y) :
    ∃ l, cs = vs .u8 l ∧ l.length = 256 ∧ Bytes l := by
  obtain ⟨xs, m, _, _, hlen, hl, hel⟩ := DataW.trod_array Try.underlying23 hf
  have c23 : Try.prog.cellsOf 23 = 256 := by kernel_rfl
  have c5 : Try.prog.cellsOf 5 = 1 := by kernel_rfl
  rw [c23] at hlen
  have hcs : ∀ u ∈ cs, ∃ n : Int, u = .int .u8 n ∧ (0 ≤ n ∧ n < 256) := by
    intro u hu
    obtain ⟨i, hi, rfl⟩ := List.getElem_of_mem hu
    have h := hel i (by omega)
    rw [c5, Nat.mul_one, List.getElem?_eq_getElem (by omega), List.drop_eq_getElem_cons hi] at h
    obtain ⟨n, e, _, hw⟩ := DataW.trod_int Try.underlying5 h
    simp only [List.take_succ_cons, List.take_zero, List.cons.injEq, and_true] at e
    exact ⟨n, e, byte_of hw⟩
  obtain ⟨l, e, hb⟩ := list_of _ _ _ hcs
  exact ⟨l, e, by rw [e, List.length_map] at hlen; exact hlen, hb⟩
theorem open_st57 {H : Type} {enc : TypeId × Value → H} {W : World} {base : Nat} {sp : Nat → Bool} {held : Bool} {v : Value} {d : DataW H} {p : List MemPlace} (hd : DataW.Trod enc Try.prog W base sp held 57 v d p) :
    ∃ l r, v = .agg (EV l r) ∧ l.length = 256 ∧ Bytes l ∧ (Lit.int .i64 r).wf = true := by
  obtain ⟨fuel, hf⟩ := hd
  obtain ⟨y0, y1, n, _, hlen, h0, h1⟩ := trod_struct2 Try.underlying57 hf
  have c57 : Try.prog.cellsOf 57 = 257 := by kernel_rfl
  have c23 : Try.prog.cellsOf 23 = 256 := by kernel_rfl
  have c3 : Try.prog.cellsOf 3 = 1 := by kernel_rfl
  rw [c57] at hlen
  obtain ⟨l, e0, hl, hb⟩ := list_cells h0
  obtain ⟨r, e1, _, hw⟩ := DataW.trod_int Try.underlying3 h1
  simp only [c23, c3, List.drop_zero] at e0 e1
  have hsplit : v.cells.toList = vs .u8 l ++ [.int .i64 r] := by
    have h2 : v.cells.toList.drop 256 = [.int .i64 r] := by
      have : (v.cells.toList.drop 256).length = 1 := by rw [List.length_drop, hlen]
      rw [← e1, List.take_of_length_le (by omega)]
    rw [← e0, ← h2, List.take_append_drop]
  refine ⟨l, r, ?_, hl, hb, hw⟩
  cases v with
  | agg cs =>
    have h : cs.toList = vs .u8 l ++ [.int .i64 r] := hsplit
    rw [EV, X, ← h]
  | _ => exact absurd hlen (by simp [Value.cells])
end Go.Proofs.Ytaccjnekonmkoaa
