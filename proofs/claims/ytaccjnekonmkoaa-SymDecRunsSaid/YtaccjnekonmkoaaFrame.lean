/-
  The frame's own parts: what a law's arguments are, opened: an array of bytes, a slice of bytes.
-/
import Derived.Test.YtaccjnekonmkoaaMtfD
import Derived.Test.YtaccjnekonmkoaaRows
import Derived.WalkKit
import Derived.ProofKit
import Derived.OpenShut
import Derived.ShutString
import Derived.ChangeOld
import Derived.Below
namespace Go.Proofs.Ytaccjnekonmkoaa
open Go Go.RowKit Go.ChangeShapes Go.WideShapes Go.ChangeAt

theorem own : ownKnob Try.prog.godebug = none := by kernel_rfl
theorem laidOut : laidOutB Try.prog = true := by kernel_rfl

theorem list_of {α : Type} (p : α → Prop) : ∀ (cs : List Value) (f : α → Value), (∀ v ∈ cs, ∃ a, v = f a ∧ p a) → ∃ l : List α, cs = l.map f ∧ ∀ a ∈ l, p a
  | [], _, _ => ⟨[], rfl, fun _ h => absurd h (by simp)⟩
  | v :: cs, f, h => by
    obtain ⟨a, rfl, ha⟩ := h v (List.mem_cons_self ..)
    obtain ⟨l, rfl, hl⟩ := list_of p cs f (fun u hu => h u (List.mem_cons_of_mem _ hu))
    exact ⟨a :: l, rfl, fun x hx => by rcases List.mem_cons.1 hx with rfl | hx <;> first | exact ha | exact hl x hx⟩
theorem byte_of {n : Int} (h : (Lit.int .u8 n).wf = true) : 0 ≤ n ∧ n < 256 := by
  simp [Lit.wf, IntKind.min, IntKind.max, IntKind.signed, IntKind.bits] at h
  omega

/-- A list of 256 bytes that came in by value. -/
theorem open_arr23 {H : Type} {enc : TypeId × Value → H} {W : World} {base : Nat} {sp : Nat → Bool} {held : Bool} {v : Value} {d : DataW H} {p : List MemPlace} (hd : DataW.Trod enc Try.prog W base sp held 23 v d p) :
    ∃ l, v = .agg (B l) ∧ l.length = 256 ∧ Bytes l := by
  obtain ⟨fuel, hf⟩ := hd
  obtain ⟨xs, m, _, _, hlen, hl, hel⟩ := DataW.trod_array Try.underlying23 hf
  have c23 : Try.prog.cellsOf 23 = 256 := by kernel_rfl
  have c5 : Try.prog.cellsOf 5 = 1 := by kernel_rfl
  rw [c23] at hlen
  have hcs : ∀ u ∈ v.cells.toList, ∃ n : Int, u = .int .u8 n ∧ (0 ≤ n ∧ n < 256) := by
    intro u hu
    obtain ⟨i, hi, rfl⟩ := List.getElem_of_mem hu
    have h := hel i (by omega)
    rw [c5, Nat.mul_one, List.getElem?_eq_getElem (by omega), List.drop_eq_getElem_cons hi] at h
    obtain ⟨n, e, _, hw⟩ := DataW.trod_int Try.underlying5 h
    simp only [List.take_succ_cons, List.take_zero, List.cons.injEq, and_true] at e
    exact ⟨n, e, byte_of hw⟩
  obtain ⟨l, e, hb⟩ := list_of _ _ _ hcs
  have hl : l.length = 256 := by rw [e, List.length_map] at hlen; exact hlen
  refine ⟨l, ?_, hl, hb⟩
  cases v with
  | agg cs =>
    have : cs.toList = l.map (Value.int .u8) := e
    rw [show cs = B l by rw [B, vs, ← this]]
  | _ =>
    exact absurd hlen (by simp [Value.cells])

/-- A slice of bytes that came in. -/
theorem open_sl24 {H : Type} {enc : TypeId × Value → H} {W : World} {base : Nat} {sp : Nat → Bool} {held : Bool} {v : Value} {d : DataW H} {p : List MemPlace} {r : Reach} {b0 : Nat} (hok : Value.okWide Try.prog W r b0 24 v) (hd : DataW.Trod enc Try.prog W base sp held 24 v d p) :
    ∃ b, In .u8 W v b ∧ Bytes b ∧ b.length ≤ maxLen := by
  obtain ⟨ad, len, cap, rfl⟩ := okWide_slice Try.underlying24 hok
  obtain ⟨fuel, hf⟩ := hd
  rcases open_ints Try.underlying24 Try.underlying5 (by kernel_rfl) hf with ⟨hcs, _⟩ | ⟨x, l, c, zs, hcs, _, hl, hm, hz, _, hcell, hwz⟩
  · simp [Value.cells] at hcs
    obtain ⟨rfl, rfl, rfl⟩ := hcs
    exact ⟨[], ⟨none, 0, rfl, fun i hi => absurd hi (by simp)⟩, fun x hx => absurd hx (by simp), by simp⟩
  · simp [Value.cells] at hcs
    obtain ⟨rfl, rfl, rfl⟩ := hcs
    have hlz : len ≤ zs.length := by rw [hz]; split <;> omega
    have ht : (zs.take len).length = len := by rw [List.length_take]; omega
    refine ⟨zs.take len, ⟨some x, cap, by rw [ht], fun i hi => ⟨x, rfl, ?_⟩⟩, fun y hy => byte_of (hwz y (List.mem_of_mem_take hy)), by omega⟩
    rw [ht] at hi
    rw [hcell i (by omega)]
    simp [gi, List.getD_eq_getElem?_getD, hi]
end Go.Proofs.Ytaccjnekonmkoaa
