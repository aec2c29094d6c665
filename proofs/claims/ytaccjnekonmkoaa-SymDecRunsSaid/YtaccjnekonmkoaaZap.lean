/-
  'append(l, make([]T, k)...)' onto a slice of the call's own: k zero values behind what it held. No program in sight.
-/
import Derived.Test.YtaccjnekonmkoaaOwn
import Derived.Lib.AppendZerosOnto
import Derived.Below
namespace Go.Proofs.Ytaccjnekonmkoaa
open Go Go.RowKit
section
variable {P : Program} {w : World}

theorem zeroCells_one (z : Value) (k : Nat) : Builtin.zeroCells #[z] k = (List.replicate k z).toArray := by
  apply Array.ext
  · simp [Builtin.zeroCells]
  · intro i h1 h2
    have e : i % 1 = 0 := Nat.mod_one i
    simp [Builtin.zeroCells, e]
theorem owns_new {base : Nat} {e : TypeId} {xs news : List Value} {z : Value} {n k old : Nat} (hb : base ≤ w.heap.size) (hx : xs.length = n) (hn : news.length = k) (h63 : n + k ≤ maxLen) (row : Option Nat) :
    (w.drew.alloc (.cells (xs.toArray ++ news.toArray ++ Builtin.zeroCells #[z] (grownCap w (n + k) old e - (n + k))) e)).ownsRow base e 1 (.slice (some ⟨w.heap.size, 0, none⟩) (n + k) (grownCap w (n + k) old e)) (n + k) (xs ++ news) ∧
      w.grownBy (w.drew.alloc (.cells (xs.toArray ++ news.toArray ++ Builtin.zeroCells #[z] (grownCap w (n + k) old e - (n + k))) e)) row := by
  have hge := grownCap_ge w (n + k) old e
  have hl : (xs ++ news).length = n + k := by rw [List.length_append, hx, hn]
  refine ⟨⟨by rw [hl]; omega, .inr ⟨w.heap.size, _, _, rfl, hb, heap_alloc_new w.drew _, hge, grownCap_le_maxLen w (n + k) old e h63, ?_, ?_⟩⟩, ⟨rfl, rfl, rfl, by simp, fun j hj _ => Below.heap_alloc w.drew _ j hj⟩⟩
  · simp [size_zeroCells, hx, hn]
    omega
  · simp only [Array.toList_append, List.append_assoc, Nat.mul_one]
    rw [← List.append_assoc, ← hl]
    exact List.take_left
theorem run_append_zeros {base : Nat} {t tn ty e : TypeId} {i : TypeInfo} {z : Value} {bytes : Nat} (he : ElTy P t e i z bytes) (htn : P.underlying tn = some (.int .i64)) {v : Value} {n : Nat} {xs : List Value} (hown : w.ownsRow base e 1 v n xs) (k : Nat)
    (h1 : z.oneCell' = true) (h63 : n + k ≤ maxLen) (hbytes : (n + k) * bytes ≤ 140737488355328) (hbase : base ≤ w.heap.size) :
    ∃ a c w', (Builtin.append_ #[t, tn] ty #[v, .int .i64 k]).run P w = .ok (.slice a (n + k) c) w' ∧ w'.ownsRow base e 1 (.slice a (n + k) c) (n + k) (xs ++ List.replicate k z) ∧ w.grownBy w' v.ownBlock ∧
      ((Value.slice a (n + k) c).ownBlock = v.ownBlock ∨ (Value.slice a (n + k) c).ownBlock = some w.heap.size) := by
  have hsmall : n + k ≤ 9223372036854775807 := by simp only [maxLen] at h63; omega
  have hxs : xs.length = n := by rw [hown.1, Nat.mul_one]
  have hkb : k * bytes ≤ (n + k) * bytes := Nat.mul_le_mul_right _ (by omega)
  have hw : IntKind.i64.wrap (k : Int) = k := by rw [IntKind.wrap_i64]; omega
  have h48i : ¬ (281474976710656 < (k : Int) * (bytes : Int)) := by
    rw [← Int.natCast_mul]
    omega
  by_cases hk : k = 0
  · subst hk
    have hin : ∃ a c, v = .slice a n c ∧ n ≤ c := by
      rcases hown.2 with ⟨rfl, rfl⟩ | ⟨g, cap, cur, rfl, _, _, hnc, _⟩
      · exact ⟨none, 0, rfl, Nat.le_refl _⟩
      · exact ⟨_, _, rfl, hnc⟩
    obtain ⟨a, c, rfl, hnc⟩ := hin
    refine ⟨a, c, w, ?_, by simpa using hown, ⟨rfl, rfl, rfl, Nat.le_refl _, fun _ _ _ => rfl⟩, .inl rfl⟩
    cases a <;> simp [Builtin.append_, run_underlying he.under, run_underlying htn, sizeOf, typeInfo, he.info, asInt, asIntOf, IntKind.wrap_i64, hnc, storeCells]
  · rcases hown.2 with ⟨rfl, rfl⟩ | ⟨g, cap, cur, rfl, hbg, hg, hnc, hcm, hcs, htake⟩
    · obtain rfl : xs = [] := List.eq_nil_of_length_eq_zero hxs
      have hr := Lib.run_append_nil_zeros (P := P) w t tn ty e i z .i64 .i64 he.under htn he.info he.zero k (by omega) (by rw [he.size]; omega) (by omega) (by rw [he.bytes]; omega)
      have hgr := owns_new (w := w) (e := e) (xs := []) (news := List.replicate k z) (z := z) (n := 0) (k := k) (old := 0) hbase rfl (by simp) h63 (Value.ownBlock (.slice none 0 0))
      rw [he.cell] at hr
      rw [zeroCells_one z k] at hr
      simp only [Nat.zero_add, List.nil_append, Array.empty_append] at hgr ⊢
      exact ⟨_, _, _, hr, hgr.1, hgr.2, .inr rfl⟩
    · by_cases hroom : n + k ≤ cap
      · have hlen : (List.replicate k z).length = k := by simp
        have hfit : n + (List.replicate k z).length ≤ cur.size := by rw [hlen, hcs]; omega
        have hst := run_storeCells_at P g n e (List.replicate k z) 0 cur w hg (by simpa using hfit) (fun u hu => by rw [List.eq_of_mem_replicate hu]; exact h1)
        simp only [Nat.add_zero] at hst
        have hneg : ¬ ((k : Int) < 0) := by omega
        refine ⟨some ⟨g, 0, none⟩, cap, _, ?_, ⟨by rw [List.length_append, hxs, hlen]; omega, .inr ⟨g, cap, _, rfl, hbg, setRow_heap w g cur (cur.toList.take n ++ List.replicate k z ++ cur.toList.drop (n + k)).toArray e _ hg, hroom, hcm, ?_, ?_⟩⟩, ⟨rfl, rfl, rfl, by simp, fun j _ hj => setRow_other w g j _ (fun e => hj (by simp [Value.ownBlock, e]))⟩, .inl rfl⟩
        · simp [Builtin.append_, run_underlying he.under, run_underlying htn, sizeOf, typeInfo, zeroValue, he.info, he.zero, he.size, he.bytes, he.cell, asInt, asIntOf, hw, hk, hneg, h48i, hroom, zeroCells_one, Addr.add_lit]
          rw [hst]
          simp [Result.andThen]
        · simp only [List.size_toArray, List.length_append, List.length_take, List.length_drop, Array.length_toList, List.length_replicate]
          rw [hcs] at *
          omega
        · rw [Nat.mul_one] at htake
          rw [htake]
          have hl : (xs ++ List.replicate k z).length = (n + k) * 1 := by rw [List.length_append, hxs, hlen]; omega
          rw [← hl]
          exact List.take_left
      · have hold : (Builtin.firstCells i.size n (.slice (some ⟨g, 0, none⟩) n cap)).run P w.drew = .ok xs.toArray w.drew :=
          run_firstCells_some (P := P) w.drew i.size n ⟨g, 0, none⟩ n cap xs (by rw [he.size, hxs, Nat.mul_one]) (hown.cells (g := g) rfl)
        have hr := Lib.run_append_grow_zeros (P := P) w t tn ty e i z .i64 .i64 he.under htn he.info he.zero (some ⟨g, 0, none⟩) n cap xs hold k (by omega) (by rw [he.size]; omega) (by omega) (by omega) (by rw [he.bytes]; omega) (by rw [he.bytes]; exact growslice_fits (by omega) hbytes)
        have hgr := owns_new (w := w) (e := e) (xs := xs) (news := List.replicate k z) (z := z) (n := n) (k := k) (old := cap) hbase hxs (by simp) h63 (Value.ownBlock (.slice (some ⟨g, 0, none⟩) n cap))
        rw [he.cell, zeroCells_one z k] at hr
        exact ⟨_, _, _, hr, hgr.1, hgr.2, .inr rfl⟩

variable {ops : Array Oper} {rest : List Oper} {o : Oper} {a : Act} {w0 : World} {Q : Exit → Act → World → Prop} {rs : List (Nat × Array Value)} {ss : List Sl}
theorem wpList_zeros_o (j : Nat) (hm : Own w0 w rs ss) (hgd : Region.wanted o (yielded ops a.tmps) = true) {x y : Operand} {t tn e : TypeId} {i : TypeInfo} {z : Value} {bytes : Nat} (ho : o.op = .call { callee := .builtin .append, args := #[x, y], argTypes := #[t, tn] }) (he : ElTy P t e i z bytes) (htn : P.underlying tn = some (.int .i64))
    {v : Value} {xs : List Value} (hx : a.eval x = v) (hj : ss[j]? = some (v, e, xs)) (k : Nat) (hy : a.eval y = .int .i64 k) (h1 : z.oneCell' = true) (hb : (xs.length + k) * bytes ≤ 140737488355328) (hb0 : xs.length + k ≤ 140737488355328)
    (h : ∀ ad c w', Own w0 w' rs (ss.set j (.slice ad (xs.length + k) c, e, xs ++ List.replicate k z)) → wpList P ops Q rest (a.put o.dst (.slice ad (xs.length + k) c)) w') : wpList P ops Q (o :: rest) a w := by
  have hown := hm.get j hj
  obtain ⟨ad, c, w', hr, h2, h3, h4⟩ := run_append_zeros (ty := o.type) he htn hown k h1 (by simp only [maxLen]; omega) hb hm.below.size
  refine wpList_run hgd ?_ (h ad c w' (hm.putSl j hj (by rw [List.length_append, List.length_replicate]; exact h2) h3 h4))
  unfold execOp
  simp only [ho, resolve, invoke, builtin, Sem.run_bind, Sem.run_pure, Result.andThen_ok, List.map_toArray, List.map_cons, List.map_nil, hx, hy, hr]
end
end Go.Proofs.Ytaccjnekonmkoaa
