/-
  Part 35 of the proof.
-/
import Derived.Maps.Keyed
import Derived.Test.YtkpbhdhkdonghaaGreatV12
import Derived.Test.YtkpbhdhkdonghaaGreatV34
set_option linter.all false
namespace Go.Proofs.YtkpbhdhkdonghaaGreat
open Go Go.RowKit
abbrev mapE (r : Nat) (xs : List Value) : Sl := (.slice none 0 0, mapT + r, xs)
theorem mapE_not (r : Nat) (xs : List Value) : ¬ (mapE r xs).2.1 < mapT := by simp [mapE, mapT]
theorem mapE_sub (r : Nat) (xs : List Value) : (mapE r xs).2.1 - mapT = r := by simp [mapE]
theorem SlIs.map {w : World} {base r : Nat} {xs : List Value} (h : SlIs w base (mapE r xs)) : base ≤ r ∧ MapIs w r xs := by
  obtain ⟨h1, h2, _⟩ := h.mp (mapE_not r xs)
  rw [mapE_sub] at h1 h2
  exact ⟨h1, h2⟩
section
variable {w0 w : World} {rs : List (Nat × Array Value)} {ss : List Sl}
variable {o : Oper} {a : Act} {K : Value → World → Prop}
end
end Go.Proofs.YtkpbhdhkdonghaaGreat

namespace Go.Proofs.YtkpbhdhkdonghaaGreat
open Go Go.RowKit
theorem kd3 : Maps.Keyed Tryz.prog 3 := Maps.int_keyed Tryz.underlying3
theorem kd5 : Maps.Keyed Tryz.prog 5 := Maps.int_keyed Tryz.underlying5
theorem kd134 : Maps.Keyed Tryz.prog 134 := Maps.Keyed.of_law (deep_law_gate Pol.laidOut Pol.small (of_decide_eq_true (by kernel_rfl)) (by kernel_rfl) (by rw [Tryz.underlying134]))
theorem kd241 : Maps.Keyed Tryz.prog 241 := Maps.Keyed.of_law (deep_law_gate Pol.laidOut Pol.small (of_decide_eq_true (by kernel_rfl)) (by kernel_rfl) (by rw [Tryz.underlying241]))
theorem key3 {n : Int} (h : (Lit.int .i64 n).wf = true) : ∃ l, keyOf Tryz.prog 3 (.int .i64 n) = some l := ⟨_, Maps.keyOf_int_mk Tryz.underlying3 h⟩
theorem key5 {n : Int} (h : (Lit.int .u8 n).wf = true) : ∃ l, keyOf Tryz.prog 5 (.int .u8 n) = some l := ⟨_, Maps.keyOf_int_mk Tryz.underlying5 h⟩
theorem key1_gen {P : Program} {k e : TypeId} {f0 : Field} (hu : P.underlying k = some (.struct #[f0])) (he : P.underlying e = some (.int .i64)) (h0 : f0.type = e) (o0 : f0.offset = 0) (n0 : f0.name ≠ "_")
    (hk : P.keyType k = true) (ck : P.cellsOf k = 1) (ce : P.cellsOf e = 1) {n : Nat} (hn : P.types.size = n + 1) {s : Int} (hs : (Lit.int .i64 s).wf = true) : ∃ l, keyOf P k (.agg #[.int .i64 s]) = some l := by
  have f : (Value.agg #[.int .i64 s]).formed P k = true := by
    simp [Value.formed, hu, ck]
  simp [keyOf, hu, hk, f, hn, Program.keyLits, Value.cells, ck, ce, he, hs, h0, o0, n0]
theorem key134 {s : Int} (hs : (Lit.int .i64 s).wf = true) : ∃ l, keyOf Tryz.prog 134 (.agg #[.int .i64 s]) = some l := by
  obtain ⟨n, hn⟩ := Pol.ts
  exact key1_gen Tryz.underlying134 Tryz.underlying3 rfl rfl (by decide) (by kernel_rfl) (by kernel_rfl) (by kernel_rfl) hn hs
theorem key2_gen {P : Program} {k e : TypeId} {f0 f1 : Field} (hu : P.underlying k = some (.struct #[f0, f1])) (he : P.underlying e = some (.int .i64)) (h0 : f0.type = e) (h1 : f1.type = e) (o0 : f0.offset = 0) (o1 : f1.offset = 1) (n0 : f0.name ≠ "_") (n1 : f1.name ≠ "_")
    (hk : P.keyType k = true) (ck : P.cellsOf k = 2) (ce : P.cellsOf e = 1) {n : Nat} (hn : P.types.size = n + 1) {s m : Int} (hs : (Lit.int .i64 s).wf = true) (hm : (Lit.int .i64 m).wf = true) : ∃ l, keyOf P k (.agg #[.int .i64 s, .int .i64 m]) = some l := by
  have f : (Value.agg #[.int .i64 s, .int .i64 m]).formed P k = true := by
    simp [Value.formed, hu, ck]
  simp [keyOf, hu, hk, f, hn, Program.keyLits, Value.cells, ck, ce, he, hs, hm, h0, h1, o0, o1, n0, n1]
theorem key241 {s m : Int} (hs : (Lit.int .i64 s).wf = true) (hm : (Lit.int .i64 m).wf = true) : ∃ l, keyOf Tryz.prog 241 (.agg #[.int .i64 s, .int .i64 m]) = some l := by
  obtain ⟨n, hn⟩ := Pol.ts
  exact key2_gen Tryz.underlying241 Tryz.underlying3 rfl rfl rfl rfl (by decide) (by decide) (by kernel_rfl) (by kernel_rfl) (by kernel_rfl) hn hs hm
end Go.Proofs.YtkpbhdhkdonghaaGreat
