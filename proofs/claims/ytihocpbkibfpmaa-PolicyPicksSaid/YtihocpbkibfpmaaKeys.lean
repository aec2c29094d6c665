/-
  The map of layouts: its keys (a side and a mode), what it holds while it is being made, an entry more, and a look into it when it is whole.
-/
import Derived.Test.YtihocpbkibfpmaaProg
import Derived.Test.YtihocpbkibfpmaaOrdOwn
import Derived.Test.YtihocpbkibfpmaaBatch
import Derived.DeepKeys5
import Derived.WideKeyElems
import Derived.StillTailTactics
import Derived.WalkLawsBesides
namespace Go.Proofs.Ytihocpbkibfpmaa
open Go Go.RowKit
theorem laidOut : laidOutB Try.prog = true := by kernel_rfl
theorem keyT : Try.prog.keyType 44 = true := by kernel_rfl
theorem small : Try.prog.types.size + 2 ≤ 10000 := of_decide_eq_true (by kernel_rfl)
theorem keyLaw : WideMaps.KeyLaw Try.prog 44 := deep_law_gate laidOut small (of_decide_eq_true (by kernel_rfl)) keyT (by rw [Try.underlying44])
def key (s m : Int) : Value := .agg #[.int .u8 s, .int .u8 m]
theorem ts0 : 0 < Try.prog.types.size := of_decide_eq_true (by kernel_rfl)
theorem ts : ∃ n, Try.prog.types.size = n + 1 := ⟨Try.prog.types.size - 1, by have := ts0; omega⟩
theorem c44 : Try.prog.cellsOf 44 = 2 := by kernel_rfl
theorem c5 : Try.prog.cellsOf 5 = 1 := by kernel_rfl
theorem key_of_gen {P : Program} {k e : TypeId} {f0 f1 : Field} (hu : P.underlying k = some (.struct #[f0, f1])) (he : P.underlying e = some (.int .u8)) (h0 : f0.type = e) (h1 : f1.type = e) (o0 : f0.offset = 0) (o1 : f1.offset = 1) (n0 : f0.name ≠ "_") (n1 : f1.name ≠ "_")
    (hk : P.keyType k = true) (ck : P.cellsOf k = 2) (ce : P.cellsOf e = 1) {n : Nat} (hn : P.types.size = n + 1) {s m : Int} (hs : (Lit.int .u8 s).wf = true) (hm : (Lit.int .u8 m).wf = true) : ∃ l, keyOf P k (key s m) = some l := by
  have f : (Value.agg #[.int .u8 s, .int .u8 m]).formed P k = true := by
    simp [Value.formed, hu, ck]
  simp [keyOf, hu, hk, f, hn, Program.keyLits, key, Value.cells, ck, ce, he, hs, hm, h0, h1, o0, o1, n0, n1]
theorem key_of {s m : Int} (hs : (Lit.int .u8 s).wf = true) (hm : (Lit.int .u8 m).wf = true) : ∃ l, keyOf Try.prog 44 (key s m) = some l := by
  obtain ⟨n, hn⟩ := ts
  exact key_of_gen Try.underlying44 Try.underlying5 rfl rfl rfl rfl (by decide) (by decide) keyT c44 c5 hn hs hm
theorem key_inj {s m s' m' : Int} (h : key s m = key s' m') : s = s' ∧ m = m' := by
  simpa [key] using h

/-! The table: by the place of the entry's operation. -/
def V (f : Nat) : Value := .func (.func f) #[] #[]
def sideAt (i : Nat) : Int := if i = 3 ∨ i = 6 ∨ i = 8 then 1 else 2
def modeAt (i : Nat) : Int := if i = 3 ∨ i = 10 then 1 else if i = 6 ∨ i = 12 then 2 else 3
def valAt (i : Nat) : Value := V (if i = 3 ∨ i = 6 then 22 else if i = 8 then 23 else if i = 10 then 24 else if i = 12 then 25 else 26)
def IX : List Nat := [3, 6, 8, 10, 12, 14]
theorem IX_inj : ∀ i ∈ IX, ∀ j ∈ IX, sideAt i = sideAt j → modeAt i = modeAt j → i = j := by decide
theorem IX_wf : ∀ i ∈ IX, (Lit.int .u8 (sideAt i)).wf = true ∧ (Lit.int .u8 (modeAt i)).wf = true := by decide
/-- Block r is a map that holds the entries of the table that are not in 'rem'. -/
def Holds (w : World) (r : Nat) (rem : List Nat) : Prop := ∃ es clock, w.heap[r]? = some (.map es clock) ∧
  (∀ e ∈ es.toList, ∃ i ∈ IX, i ∉ rem ∧ e.key = key (sideAt i) (modeAt i) ∧ e.val = valAt i) ∧ (∀ i ∈ IX, i ∉ rem → ∃ e ∈ es.toList, e.key = key (sideAt i) (modeAt i))
theorem Holds.keyed {es : Array MapEntry} {rem : List Nat} (h : ∀ e ∈ es.toList, ∃ i ∈ IX, i ∉ rem ∧ e.key = key (sideAt i) (modeAt i) ∧ e.val = valAt i) : ∀ e ∈ es.toList, ∃ l, keyOf Try.prog 44 e.key = some l := by
  intro e he
  obtain ⟨i, hi, _, hk, _⟩ := h e he
  rw [hk]
  exact key_of (IX_wf i hi).1 (IX_wf i hi).2
theorem Holds.lt {w : World} {r : Nat} {rem : List Nat} (h : Holds w r rem) : r < w.heap.size := by
  obtain ⟨es, clock, hb, _⟩ := h
  exact (Array.getElem?_eq_some_iff.1 hb).1
theorem Holds.below {w w' : World} {r : Nat} {rem : List Nat} (h : Holds w r rem) (hb : Below w.heap.size w w') : Holds w' r rem := by
  have hl := h.lt
  obtain ⟨es, clock, he, h1, h2⟩ := h
  exact ⟨es, clock, (hb.block r hl).trans he, h1, h2⟩
theorem Holds.made (w : World) : Holds (w.alloc (.map #[] 0)) w.heap.size IX :=
  ⟨#[], 0, by show (w.heap.push _)[w.heap.size]? = _; simp, fun e he => by simp at he, fun i hi hn => absurd hi hn⟩
/-- One entry more. -/
theorem run_insert {w : World} {r : Nat} {rem : List Nat} {i : Nat} (hn : rem.Nodup) (hi : i ∈ rem) (hx : i ∈ IX) (h : Holds w r rem) {base : Nat} {w0 : World} (hb : Below base w0 w) (hr : base ≤ r) :
    ∃ w', (Instr.mapUpdate 41 (.map (some r)) (key (sideAt i) (modeAt i)) (valAt i)).run Try.prog w = .ok () w' ∧ Holds w' r (rem.erase i) ∧ Below base w0 w' := by
  obtain ⟨es, clock, he, h1, h2⟩ := h
  obtain ⟨l, hl⟩ := key_of (IX_wf i hx).1 (IX_wf i hx).2
  have hlt := (Array.getElem?_eq_some_iff.1 he).1
  rcases keyLaw.find w hl es.toList (Holds.keyed h1) with ⟨f1, f2⟩ | ⟨j, e0, f1, f2, f3⟩
  · refine ⟨ChangeMaps.setBlock w r (.map (es.push ⟨key (sideAt i) (modeAt i), valAt i, clock⟩) (clock + 1)), ?_, ⟨es.push ⟨key (sideAt i) (modeAt i), valAt i, clock⟩, clock + 1, ?_, ?_, ?_⟩, ?_⟩
    · simp [Instr.mapUpdate, run_underlying Try.underlying41, MapKept.run_getObj_map he, keyLaw.check w false hl, f1, MapKept.run_setObj_map _ he, Result.andThen, ChangeMaps.setBlock]
    · simp [ChangeMaps.setBlock, hlt]
    · intro e hm
      simp only [Array.toList_push, List.mem_append, List.mem_singleton] at hm
      rcases hm with hm | rfl
      · obtain ⟨k, hk, hkr, hk2⟩ := h1 e hm
        exact ⟨k, hk, fun hc => hkr (List.mem_of_mem_erase hc), hk2⟩
      · exact ⟨i, hx, fun hc => by rw [hn.mem_erase_iff] at hc; exact hc.1 rfl, rfl, rfl⟩
    · intro k hk hkr
      by_cases hki : k = i
      · subst hki
        exact ⟨⟨key (sideAt k) (modeAt k), valAt k, clock⟩, by simp, rfl⟩
      · obtain ⟨e, hm, hke⟩ := h2 k hk (fun hc => hkr (by rw [hn.mem_erase_iff]; exact ⟨hki, hc⟩))
        exact ⟨e, by simp [hm], hke⟩
    · refine ⟨hb.os, hb.tape, hb.output, ?_, fun k hk => ?_⟩
      · simpa [ChangeMaps.setBlock] using hb.size
      · rw [← hb.block k hk]
        simp only [ChangeMaps.setBlock]
        rw [Array.getElem?_setIfInBounds_ne (by omega)]
  · exfalso
    have hm0 : e0 ∈ es.toList := List.mem_of_getElem? f2
    obtain ⟨k, hk, hkr, hk2, _⟩ := h1 e0 hm0
    rw [f3] at hk2
    obtain ⟨q1, q2⟩ := key_inj hk2
    rw [IX_inj i hx k hk q1 q2] at hi
    exact hkr hi

/-- What the whole table holds at a side and a mode. -/
def plan (s m : Int) : Option Nat := if s = 1 then (if m = 1 ∨ m = 2 then some 22 else if m = 3 then some 23 else none) else if s = 2 then (if m = 1 then some 24 else if m = 2 then some 25 else if m = 3 then some 26 else none) else none
theorem plan_at : ∀ i ∈ IX, ∃ f, plan (sideAt i) (modeAt i) = some f ∧ valAt i = V f := by
  have : ∀ i ∈ IX, ∃ f ∈ [22, 23, 24, 25, 26], plan (sideAt i) (modeAt i) = some f ∧ (if i = 3 ∨ i = 6 then 22 else if i = 8 then 23 else if i = 10 then 24 else if i = 12 then 25 else 26) = f := by decide
  intro i hi
  obtain ⟨f, _, h1, h2⟩ := this i hi
  exact ⟨f, h1, by rw [valAt, h2]⟩
theorem plan_none {s m : Int} (h : ∀ i ∈ IX, ¬ (sideAt i = s ∧ modeAt i = m)) : plan s m = none := by
  have a1 := h 3 (by decide)
  have a2 := h 6 (by decide)
  have a3 := h 8 (by decide)
  have a4 := h 10 (by decide)
  have a5 := h 12 (by decide)
  have a6 := h 14 (by decide)
  simp [sideAt, modeAt] at a1 a2 a3 a4 a5 a6
  unfold plan
  repeat' split
  all_goals first | rfl | omega
def found (o : Option Nat) : Value := match o with | some f => .tuple #[V f, .bool true] | none => .tuple #[.nilFunc, .bool false]
theorem run_look {w : World} {r : Nat} (h : Holds w r []) {s m : Int} (hs : (Lit.int .u8 s).wf = true) (hm : (Lit.int .u8 m).wf = true) :
    (Instr.lookup 41 (.map (some r)) (key s m) true).run Try.prog w = .ok (found (plan s m)) w := by
  obtain ⟨es, clock, he, h1, h2⟩ := h
  obtain ⟨l, hl⟩ := key_of hs hm
  have hz : (zeroValue 39).run Try.prog w = .ok .nilFunc w := by kernel_rfl
  rcases keyLaw.find w hl es.toList (Holds.keyed h1) with ⟨f1, f2⟩ | ⟨j, e0, f1, f2, f3⟩
  · have hp : plan s m = none := plan_none fun i hi hc => by
      obtain ⟨e, hme, hke⟩ := h2 i hi (by simp)
      exact f2 e hme (by rw [hke, hc.1, hc.2])
    rw [hp]
    simp [Instr.lookup, run_underlying Try.underlying41, MapKept.run_getObj_map he, keyLaw.check w _ hl, f1, hz, Result.andThen, found]
  · have hm0 : e0 ∈ es.toList := List.mem_of_getElem? f2
    obtain ⟨k, hk, _, hk2, hk3⟩ := h1 e0 hm0
    rw [f3] at hk2
    obtain ⟨q1, q2⟩ := key_inj hk2
    obtain ⟨f, hp, hv⟩ := plan_at k hk
    rw [← q1, ← q2] at hp
    rw [hp]
    simp [Instr.lookup, run_underlying Try.underlying41, MapKept.run_getObj_map he, keyLaw.check w _ hl, f1, Result.andThen, found, hk3, hv]
end Go.Proofs.Ytihocpbkibfpmaa
