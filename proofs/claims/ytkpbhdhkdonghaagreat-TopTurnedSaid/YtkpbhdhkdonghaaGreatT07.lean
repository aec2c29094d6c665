/-
  Part 7 of the proof.
-/
import Derived.Test.YtkpbhdhkdonghaaGreatT02
import Derived.Test.YtkpbhdhkdonghaaGreatT04
import Derived.Test.YtkpbhdhkdonghaaGreatT06
set_option linter.all false
namespace Go.Proofs.YtkpbhdhkdonghaaGreat
open Go Go.RowKit
theorem el24 : ∃ i, ElTy Tryz.prog 22 5 i (.int .u8 0) 1 := ElTy.ex Tryz.underlying22 (by kernel_rfl) rfl
theorem el39 : ∃ i, ElTy Tryz.prog 124 3 i (.int .i64 0) 8 := ElTy.ex Tryz.underlying124 (by kernel_rfl) rfl
theorem one_list (v : Value) (h : v.oneCell' = true) : ∀ u ∈ [v], u.oneCell' = true := by
  intro u hu
  rw [List.mem_singleton.1 hu]
  exact h
def In (k : IntKind) (w : World) (v : Value) (b : List Int) : Prop := ∃ ad c, v = .slice ad b.length c ∧ (∀ i, i < b.length → ∃ A, ad = some A ∧ w.cell? (A.add i) = some (.int k (gi b i)))
theorem In.below {k : IntKind} {w w' : World} {v : Value} {b : List Int} (h : In k w v b) (hb : Below w.heap.size w w') : In k w' v b := by
  obtain ⟨ad, c, rfl, hc⟩ := h
  refine ⟨ad, c, rfl, fun i hi => ?_⟩
  obtain ⟨A, rfl, hA⟩ := hc i hi
  exact ⟨A, rfl, (hb.cell (block_lt_of_cell hA)).trans hA⟩
end Go.Proofs.YtkpbhdhkdonghaaGreat

namespace Go.Proofs.YtkpbhdhkdonghaaGreat
open Go Go.RowKit
def InC (k : IntKind) (w : World) (v : Value) (b : List Int) : Prop := ∃ ad c, v = .slice ad b.length c ∧ b.length ≤ c ∧ (∀ i, i < b.length → ∃ A, ad = some A ∧ w.cell? (A.add i) = some (.int k (gi b i)))
theorem InC.below {k : IntKind} {w w' : World} {v : Value} {b : List Int} (h : InC k w v b) (hb : Below w.heap.size w w') : InC k w' v b := by
  obtain ⟨ad, c, rfl, h1, hc⟩ := h
  refine ⟨ad, c, rfl, h1, fun i hi => ?_⟩
  obtain ⟨A, rfl, hA⟩ := hc i hi
  exact ⟨A, rfl, (hb.cell (block_lt_of_cell hA)).trans hA⟩
def seg (l : List Int) (i k : Nat) : List Int := (l.take k).drop i
theorem seg_len {l : List Int} {i k : Nat} (h : k ≤ l.length) : (seg l i k).length = k - i := by
  rw [seg, List.length_drop, List.length_take]; omega
theorem seg_get {l : List Int} {i k j : Nat} (hk : k ≤ l.length) (hj : j < k - i) : gi (seg l i k) j = gi l (i + j) := by
  have h1 : j < (seg l i k).length := by rw [seg_len hk]; exact hj
  simp [gi, seg, List.getD_eq_getElem?_getD, List.getElem?_drop, show i + j < k by omega]
def subAt (ad : Option Addr) (c i : Nat) : Option Addr := if c = i then ad else ad.map (·.add i)
theorem InC.sub {k : IntKind} {w : World} {ad : Option Addr} {n c : Nat} {b : List Int} (h : InC k w (.slice ad n c) b) {i j : Nat} (hij : i ≤ j) (hj : j ≤ n) : InC k w (.slice (subAt ad c i) (j - i) (c - i)) (seg b i j) := by
  obtain ⟨ad', c', e, h1, h2⟩ := h
  injection e with e1 e2 e3
  subst e1 e2 e3
  refine ⟨_, _, by rw [seg_len hj], by rw [seg_len hj]; omega, fun q hq => ?_⟩
  rw [seg_len hj] at hq
  obtain ⟨A, rfl, hA⟩ := h2 (i + q) (by omega)
  have hA2 : (A.add i).add q = A.add (i + q) := by rw [Addr.add_add]
  refine ⟨A.add i, by rw [subAt, if_neg (by omega)]; rfl, ?_⟩
  rw [hA2, hA, seg_get hj hq]
section
variable {P : Program} {w : World} {o : Oper} {a : Act}
theorem run_sub {t e : TypeId} {i : TypeInfo} {z : Value} {bytes : Nat} (he : ElTy P t e i z bytes) {ad : Option Addr} {n c : Nat} {lo hi : Option Value} {l h : Nat}
    (hlo : (lo = none ∧ l = 0) ∨ ∃ q, lo = some (.int q l)) (hhi : (hi = none ∧ h = n) ∨ ∃ q, hi = some (.int q h)) (h1 : l ≤ h) (h2 : h ≤ c) :
    (Instr.sliceAt t (.slice ad n c) lo hi none).run P w = .ok (.slice (subAt ad c l) (h - l) (c - l)) w := by
  have hl0 : (0 : Int) ≤ l := by omega
  have hh0 : (0 : Int) ≤ h := by omega
  have hlh : (l : Int) ≤ h := by omega
  have hhc : (h : Int) ≤ c := by omega
  unfold Instr.sliceAt
  rw [Sem.run_bind, run_underlying he.under]
  simp only [Result.andThen_ok]
  unfold Instr.slice
  rw [Sem.run_bind, run_underlying he.under]
  simp only [Result.andThen_ok]
  rcases hlo with ⟨rfl, rfl⟩ | ⟨q1, rfl⟩ <;> rcases hhi with ⟨rfl, rfl⟩ | ⟨q2, rfl⟩ <;>
    simp [Instr.sliceBounds, Instr.sliceBound, asIntOf, sizeOf, typeInfo, he.info, he.size, subAt, h1, h2, Result.andThen]
theorem exec_sub {t e : TypeId} {i : TypeInfo} {z : Value} {bytes : Nat} {x : Operand} {lo hi : Option Operand} (ho : o.op = .slice t x lo hi none) (he : ElTy P t e i z bytes) {ad : Option Addr} {n c : Nat} (hx : a.eval x = .slice ad n c) {l h : Nat}
    (hlo : (lo.map a.eval = none ∧ l = 0) ∨ ∃ q, lo.map a.eval = some (.int q l)) (hhi : (hi.map a.eval = none ∧ h = n) ∨ ∃ q, hi.map a.eval = some (.int q h)) (h1 : l ≤ h) (h2 : h ≤ c) :
    (execOp a.eval o).run P w = .ok (.value (.slice (subAt ad c l) (h - l) (c - l))) w := by
  unfold execOp
  simp only [ho, hx, Sem.run_bind, Option.map_none, run_sub he hlo hhi h1 h2, Result.andThen_ok, Sem.run_pure]
end
end Go.Proofs.YtkpbhdhkdonghaaGreat
