/-
  Part 22 of the proof.
-/
import Derived.Maps.Keyed
import Derived.Test.YtkpbhdhkdonghaaGreatT16
import Derived.Test.YtkpbhdhkdonghaaGreatT21
set_option linter.all false
namespace Go.Proofs.YtkpbhdhkdonghaaGreat
open Go Go.RowKit
abbrev mapE (r : Nat) (xs : List Value) : Sl := (.slice none 0 0, mapT + r, xs)
theorem mapE_not (r : Nat) (xs : List Value) : ¬ (mapE r xs).2.1 < mapT := by simp [mapE, mapT]
theorem mapE_sub (r : Nat) (xs : List Value) : (mapE r xs).2.1 - mapT = r := by simp [mapE]
theorem SlIs.map {w : World} {base r : Nat} {xs : List Value} (h : SlIs w base (mapE r xs)) : base ≤ r ∧ MapIs w r xs := by
  obtain ⟨h1, h2, _⟩ := h.mp (mapE_not r xs)
  rw [mapE_sub] at h1 h2
  exact ⟨h1, h2⟩
theorem SlIs.of_map {w : World} {base r : Nat} {xs : List Value} (h1 : base ≤ r) (h2 : MapIs w r xs) : SlIs w base (mapE r xs) :=
  ⟨fun h => absurd h (mapE_not r xs), fun _ => ⟨by rw [mapE_sub]; exact h1, by rw [mapE_sub]; exact h2, rfl⟩⟩
section
variable {w0 w : World} {rs : List (Nat × Array Value)} {ss : List Sl}
theorem Own.newMap (h : Own w0 w rs ss) : Own w0 (w.alloc (.map #[] 0)) rs (mapE w.heap.size [] :: ss) ∧ ∀ s ∈ ss, s.2.1 ≠ mapT + w.heap.size := by
  have h' := h.alloc_obj (.map #[] 0)
  refine ⟨⟨h'.mem, fun s hs => ?_, by simpa [List.filterMap_cons, Value.ownBlock] using h'.apart⟩, fun s hs e => ?_⟩
  · rcases List.mem_cons.1 hs with rfl | hs
    · exact SlIs.of_map h.below.size ⟨#[], 0, by show (w.heap.push _)[w.heap.size]? = _; simp, fun e he => by simp at he, fun p hp => by simp [pairsOf] at hp, by simp [pairsOf]⟩
    · exact h'.sl s hs
  · have hS := h.sl s hs
    have hq : ¬ s.2.1 < mapT := by rw [e]; simp
    have := (hS.mp hq).2.1.lt
    rw [e] at this
    simp at this
theorem Own.putMap {w' : World} {r : Nat} {xs ys : List Value} (h : Own w0 w rs (mapE r xs :: ss)) (hd : ∀ s ∈ ss, s.2.1 ≠ mapT + r) (hg : w.grownBy w' (some r)) (hM : MapIs w' r ys) : Own w0 w' rs (mapE r ys :: ss) := by
  obtain ⟨hb, hm⟩ := (h.sl (mapE r xs) List.mem_cons_self).map
  have hcell : ∀ k cs t f, w.heap[k]? = some (.cells cs t f) → some k ≠ some r := fun k cs t f hk e => by
    cases e
    obtain ⟨es, c, h1, _⟩ := hm
    rw [h1] at hk; cases hk
  refine ⟨h.mem.grown hg (fun k e => by cases e; exact hb) (fun k e hk => ?_), fun s hs => ?_, by simpa [List.filterMap_cons, Value.ownBlock] using h.apart⟩
  · obtain ⟨p, hp, e2⟩ := List.mem_map.1 hk
    obtain ⟨t, ht⟩ := h.mem.rows p hp
    rw [e2] at ht
    exact hcell k _ _ _ ht e.symm
  · rcases List.mem_cons.1 hs with rfl | hs
    · exact SlIs.of_map hb hM
    · have hS := h.sl s (by simp [hs])
      refine ⟨fun hq => (hS.sl hq).kept hg ?_, fun hq => ?_⟩
      · cases hk : s.1.ownBlock with
        | none => exact .inl rfl
        | some g =>
          obtain ⟨cs, t, f, hgb⟩ := hS.cells g hk
          exact .inr (hcell g _ _ _ hgb)
      · obtain ⟨h1, h2, h3⟩ := hS.mp hq
        refine ⟨h1, h2.block (hg.block _ h2.lt fun e => ?_), h3⟩
        have e2 : s.2.1 - mapT = r := Option.some.inj e
        exact hd s hs (by rw [← e2]; exact (Nat.add_sub_cancel' (Nat.le_of_not_lt hq)).symm)
theorem run_insertM {mt kt vt r : Nat} {xs : List Value} {k v : Value} (hu : Tryz.prog.underlying mt = some (.map kt vt)) (kl : Maps.Keyed Tryz.prog kt) (h : Own w0 w rs (mapE r xs :: ss)) (hd : ∀ s ∈ ss, s.2.1 ≠ mapT + r)
    (hk : ∃ l, keyOf Tryz.prog kt k = some l) (hks : ∀ p ∈ pairsOf xs, ∃ l, keyOf Tryz.prog kt p.1 = some l) (hn : ∀ p ∈ pairsOf xs, p.1 ≠ k) :
    ∃ w', (Instr.mapUpdate mt (.map (some r)) k v).run Tryz.prog w = .ok () w' ∧ Own w0 w' rs (mapE r (k :: v :: xs) :: ss) := by
  obtain ⟨hb, es, clock, he, h1, h2, h3⟩ := (h.sl (mapE r xs) List.mem_cons_self).map
  obtain ⟨l, hl⟩ := hk
  have hlt := (Array.getElem?_eq_some_iff.1 he).1
  rcases kl.find w hl es.toList (fun e hm => hks (e.key, e.val) (h1 e hm)) with ⟨f1, f2⟩ | ⟨j, e0, f1, f2, f3⟩
  · refine ⟨ChangeMaps.setBlock w r (.map (es.push ⟨k, v, clock⟩) (clock + 1)), ?_, h.putMap hd ⟨rfl, rfl, rfl, by simp [ChangeMaps.setBlock], fun q _ hqr => ?_⟩ ⟨es.push ⟨k, v, clock⟩, clock + 1, ?_, ?_, ?_, by simp [pairsOf, h3]⟩⟩
    · simp [Instr.mapUpdate, run_underlying hu, MapKept.run_getObj_map he, kl.check w false hl, f1, MapKept.run_setObj_map _ he, Result.andThen, ChangeMaps.setBlock]
    · simp only [ChangeMaps.setBlock]
      rw [Array.getElem?_setIfInBounds_ne (fun e => hqr (by rw [e]))]
    · simp [ChangeMaps.setBlock, hlt]
    · intro e hm
      simp only [Array.toList_push, List.mem_append, List.mem_singleton] at hm
      rcases hm with hm | rfl
      · exact List.mem_cons_of_mem _ (h1 e hm)
      · simp [pairsOf]
    · intro p hp
      simp only [pairsOf] at hp
      rcases List.mem_cons.1 hp with rfl | hp
      · exact ⟨⟨k, v, clock⟩, by simp, rfl⟩
      · obtain ⟨e, hm, hke⟩ := h2 p hp
        exact ⟨e, by simp [hm], hke⟩
  · exact absurd f3 (hn _ (h1 e0 (List.mem_of_getElem? f2)))
theorem run_lookM {mt kt vt r : Nat} {xs : List Value} {k v : Value} (hu : Tryz.prog.underlying mt = some (.map kt vt)) (kl : Maps.Keyed Tryz.prog kt) (hM : MapIs w r xs)
    (hk : ∃ l, keyOf Tryz.prog kt k = some l) (hks : ∀ p ∈ pairsOf xs, ∃ l, keyOf Tryz.prog kt p.1 = some l) (hin : ∃ p ∈ pairsOf xs, p.1 = k) (hv : ∀ p ∈ pairsOf xs, p.1 = k → p.2 = v) :
    (Instr.lookup mt (.map (some r)) k false).run Tryz.prog w = .ok v w := by
  obtain ⟨es, clock, he, h1, h2, _⟩ := hM
  obtain ⟨l, hl⟩ := hk
  rcases kl.find w hl es.toList (fun e hm => hks (e.key, e.val) (h1 e hm)) with ⟨f1, f2⟩ | ⟨j, e0, f1, f2, f3⟩
  · obtain ⟨p, hp, rfl⟩ := hin
    obtain ⟨e, hme, hke⟩ := h2 p hp
    exact absurd hke (f2 e hme)
  · have hv' := hv _ (h1 e0 (List.mem_of_getElem? f2)) f3
    simp only at hv'
    simp [Instr.lookup, run_underlying hu, MapKept.run_getObj_map he, kl.check w _ hl, f1, Result.andThen, hv']
variable {o : Oper} {a : Act} {K : Value → World → Prop}
theorem eff_makeMap (hm : Own w0 w rs ss) {t : TypeId} (ho : o.op = .makeMap t none) (h : ∀ w' r, Own w0 w' rs (mapE r [] :: ss) → (∀ s ∈ ss, s.2.1 ≠ mapT + r) → K (.map (some r)) w') : Eff Tryz.prog o a w K :=
  Eff.val (Pol.exec_makeMap ho) (h _ _ hm.newMap.1 hm.newMap.2)
theorem lookM {mt kt vt r : Nat} {xs : List Value} {k v : Value} (i : Nat) (hm : Own w0 w rs ss) {x y : Operand} (ho : o.op = .lookup mt x y false) (hx : a.eval x = .map (some r)) (hy : a.eval y = k) (hi : ss[i]? = some (mapE r xs)) (hu : Tryz.prog.underlying mt = some (.map kt vt)) (kl : Maps.Keyed Tryz.prog kt)
    (hk : ∃ l, keyOf Tryz.prog kt k = some l) (hks : ∀ p ∈ pairsOf xs, ∃ l, keyOf Tryz.prog kt p.1 = some l) (hin : ∃ p ∈ pairsOf xs, p.1 = k) (hv : ∀ p ∈ pairsOf xs, p.1 = k → p.2 = v) : (execOp a.eval o).run Tryz.prog w = .ok (.value v) w := by
  have hM := ((hm.sl _ (List.mem_of_getElem? hi)).map).2
  unfold execOp
  simp only [ho, hx, hy, Sem.run_bind, run_lookM hu kl hM hk hks hin hv, Result.andThen_ok, Sem.run_pure]
end
end Go.Proofs.YtkpbhdhkdonghaaGreat

namespace Go.Proofs.YtkpbhdhkdonghaaGreat
open Go Go.RowKit
theorem kd3 : Maps.Keyed Tryz.prog 3 := Maps.int_keyed Tryz.underlying3
theorem kd5 : Maps.Keyed Tryz.prog 5 := Maps.int_keyed Tryz.underlying5
theorem kd134 : Maps.Keyed Tryz.prog 134 := Maps.Keyed.of_law (deep_law_gate Pol.laidOut Pol.small (of_decide_eq_true (by kernel_rfl)) (by kernel_rfl) (by rw [Tryz.underlying134]))
theorem kd241 : Maps.Keyed Tryz.prog 241 := Maps.Keyed.of_law (deep_law_gate Pol.laidOut Pol.small (of_decide_eq_true (by kernel_rfl)) (by kernel_rfl) (by rw [Tryz.underlying241]))
theorem key3 {n : Int} (h : (Lit.int .i64 n).wf = true) : ∃ l, keyOf Tryz.prog 3 (.int .i64 n) = some l := ⟨_, Maps.keyOf_int_mk Tryz.underlying3 h⟩
theorem key5 {n : Int} (h : (Lit.int .u8 n).wf = true) : ∃ l, keyOf Tryz.prog 5 (.int .u8 n) = some l := ⟨_, Maps.keyOf_int_mk Tryz.underlying5 h⟩
theorem key1_gen {P : Program} {k e : TypeId} {f0 : Field} (hu : P.underlying k = some (.struct #[f0])) (he : P.underlying e = some (.int .i64)) (h0 : f0.type = e) (o0 : f0.offset = 0) (n0 : f0.name ≠ "_")
    (hk : P.keyType k = true) (ck : P.cellsOf k = 1) (ce : P.cellsOf e = 1) {n : Nat} (hn : P.types.size = n + 1) {s : Int} (hs : (Lit.int .i64 s).wf = true) : ∃ l, keyOf P k (.agg #[.int .i64 s]) = some l := by
  have f : (Value.agg #[.int .i64 s]).formed P k = true := by
    simp [Value.formed, hu, ck]
  simp [keyOf, hu, hk, f, hn, Program.keyLits, Value.cells, ck, ce, he, hs, h0, o0, n0]
theorem key134 {s : Int} (hs : (Lit.int .i64 s).wf = true) : ∃ l, keyOf Tryz.prog 134 (.agg #[.int .i64 s]) = some l := by
  obtain ⟨n, hn⟩ := Pol.ts
  exact key1_gen Tryz.underlying134 Tryz.underlying3 rfl rfl (by decide) (by kernel_rfl) (by kernel_rfl) (by kernel_rfl) hn hs
theorem key2_gen {P : Program} {k e : TypeId} {f0 f1 : Field} (hu : P.underlying k = some (.struct #[f0, f1])) (he : P.underlying e = some (.int .i64)) (h0 : f0.type = e) (h1 : f1.type = e) (o0 : f0.offset = 0) (o1 : f1.offset = 1) (n0 : f0.name ≠ "_") (n1 : f1.name ≠ "_")
    (hk : P.keyType k = true) (ck : P.cellsOf k = 2) (ce : P.cellsOf e = 1) {n : Nat} (hn : P.types.size = n + 1) {s m : Int} (hs : (Lit.int .i64 s).wf = true) (hm : (Lit.int .i64 m).wf = true) : ∃ l, keyOf P k (.agg #[.int .i64 s, .int .i64 m]) = some l := by
  have f : (Value.agg #[.int .i64 s, .int .i64 m]).formed P k = true := by
    simp [Value.formed, hu, ck]
  simp [keyOf, hu, hk, f, hn, Program.keyLits, Value.cells, ck, ce, he, hs, hm, h0, h1, o0, o1, n0, n1]
theorem key241 {s m : Int} (hs : (Lit.int .i64 s).wf = true) (hm : (Lit.int .i64 m).wf = true) : ∃ l, keyOf Tryz.prog 241 (.agg #[.int .i64 s, .int .i64 m]) = some l := by
  obtain ⟨n, hn⟩ := Pol.ts
  exact key2_gen Tryz.underlying241 Tryz.underlying3 rfl rfl rfl rfl (by decide) (by decide) (by kernel_rfl) (by kernel_rfl) (by kernel_rfl) hn hs hm
end Go.Proofs.YtkpbhdhkdonghaaGreat
