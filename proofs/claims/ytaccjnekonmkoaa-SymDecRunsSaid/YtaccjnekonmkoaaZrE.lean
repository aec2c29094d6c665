/-
  The walk of the closure 'flush' of zerorun.Fold: it appends the digits of the run to the list and sets the run to zero.
-/
import Derived.Test.YtaccjnekonmkoaaZrD
namespace Go.Proofs.Ytaccjnekonmkoaa
open Go Go.RowKit Go.Shelf
attribute [local go_sem] Oper.semAt_some

theorem Own.grown {w0 w w' : World} {rs : List (Nat × Array Value)} {ss : List Sl} (h : Own w0 w rs ss) {row : Option Nat} (hg : w.grownBy w' row) (hr : ∀ r, row = some r → w0.heap.size ≤ r ∧ ∃ o : Obj, w.heap[r]? = some o ∧ o.isCells = false) : Own w0 w' rs ss := by
  refine ⟨h.mem.grown hg (fun k e => (hr k e).1) (fun k e hk => ?_), fun s hs => ?_, h.apart⟩
  · obtain ⟨p, hp, rfl⟩ := List.mem_map.1 hk
    obtain ⟨t, ht⟩ := h.mem.rows p hp
    obtain ⟨_, o, ho, hc⟩ := hr _ e
    rw [ht] at ho
    cases ho
    cases hc
  · refine (h.sl s hs).kept hg ?_
    rcases (h.sl s hs).2 with ⟨hn, _⟩ | ⟨g, cap, cur, hv, _, hgb, _⟩
    · exact .inl (by rw [hn]; rfl)
    · refine .inr fun e' => ?_
      rw [hv] at e'
      obtain ⟨_, o, ho, hc⟩ := hr g (by simpa [Value.ownBlock] using e'.symm)
      rw [hgb] at ho
      cases ho
      cases hc
theorem wpListIn_append_o {F : Fence} {n : Nat} {P : Program} {w0 w : World} {rs : List (Nat × Array Value)} {ss : List Sl} (j : Nat) (hm : Own w0 w rs ss) {ops : Array Oper} {rest : List Oper} {o : Oper} {a : Act} {Q : Exit → Act → World → Prop} (hg : o.guard = none)
    {x y : Operand} {t e : TypeId} {i : TypeInfo} {z : Value} {bytes : Nat} (ho : o.op = .call { callee := .builtin .append, args := #[x, y], argTypes := #[t, t] }) (he : ElTy P t e i z bytes)
    {v : Value} {xs : List Value} (hx : a.eval x = v) (hj : ss[j]? = some (v, e, xs)) {sv : Value} {news : List Value} (hy : a.eval y = sv) (hs : Src w sv news) (h1 : ∀ u ∈ news, u.oneCell' = true) (hb : (xs.length + news.length) * bytes ≤ 140737488355328) (hb0 : xs.length + news.length ≤ 140737488355328)
    (hK : ∀ ad c w', Own w0 w' rs (ss.set j (.slice ad (xs.length + news.length) c, e, xs ++ news)) → w.grownBy w' v.ownBlock → wpListIn F n P ops Q rest (a.put o.dst (.slice ad (xs.length + news.length) c)) w') : wpListIn F n P ops Q (o :: rest) a w := by
  refine wpListIn_plain hg fun K hK' => ?_
  have hown := hm.get j hj
  obtain ⟨ad, c, w', hr, h2, h3, h4⟩ := run_append_src (ty := o.type) he hown hs h1 (by simp only [maxLen]; omega) hb hm.below.size
  unfold Oper.wpIn
  refine ⟨?_, ?_⟩
  · simp [Oper.about, ho, resolve, Target.leads, Sem.run_pure]
  · rw [Oper.semAt_plain F _ _ (by rw [ho]; intro c hc'; cases hc')]
    simp [execOp, ho, resolve, invoke, builtin, hx, hy, hr, Result.andThen]
    exact hK' _ _ (hK ad c w' (hm.putSl j hj (by rw [List.length_append]; exact h2) h3 h4) h3)
theorem RowIs.boxed {w : World} {g : Nat} {v : Value} (h : RowIs w g #[v]) : w.cell? ⟨g, 0, none⟩ = some v ∧ w.frozen? ⟨g, 0, none⟩ = false := by
  obtain ⟨t, ht⟩ := h
  exact ⟨by simp [World.cell?, ht], by simp [World.frozen?, ht]⟩

set_option maxRecDepth 100000 in
set_option maxHeartbeats 2000000 in
theorem flush_in (F : Fence) (n : Nat) (h69 : F.fn 69) (h68 : F.fn 68) (h73 : F.fn 73) (hro : F.round = none) (hn : 3 ≤ n) (w0 W0 : World) (Br Bl r : Nat) (hr : r < 2 ^ 31) (v : Value) (xs : List Int)
    (hm : Own w0 W0 [(Br, #[.int .i64 r]), (Bl, #[v])] [(v, 3, vs .i64 xs)]) (hx : xs.length ≤ 100000) :
    CallsIn F n Try.prog 69 #[.pointer (some ⟨Br, 0, none⟩), .pointer (some ⟨Bl, 0, none⟩)] W0 fun e W' => (∃ u, e = .returned u) ∧ ∃ v', Own w0 W' [(Br, #[.int .i64 0]), (Bl, #[v'])] [(v', 3, vs .i64 (xs ++ dg r))] := by
  have h1 : 1 ≤ n := by omega
  refine callsIn_of_wp_marks Try.func69 rfl h69 ?_ hro
  simp only [Try.ntmps69, List.size_toArray, List.length_cons, List.length_nil, Nat.reduceAdd, Nat.reduceSub, Array.replicate_succ, Array.replicate_zero, List.push_toArray, List.append_toArray, List.nil_append, List.cons_append]
  obtain ⟨hcr, hfr⟩ := (hm.row 0 rfl).boxed
  gi_wp2_with (gi_at_call 68; refine (down_in F (n - 1) h68 hro _ _).mono ?_; rintro e w' ⟨rfl, rfl⟩)
  obtain ⟨i3, hE⟩ := el39
  have HE := Lib.hid hE
  clear hE
  have hmN := hm.alloc #[.int .i64 r] 3
  have hbase := hm.below.size
  have hd := len_dg 31 r hr
  obtain ⟨hcN, hfN⟩ := (hmN.row 0 rfl).boxed
  have hBl : W0.heap.size ≠ Bl := by
    have h := (List.nodup_append.1 hmN.apart).2.1
    simp only [List.map_cons, List.map_nil, List.nodup_cons, List.mem_cons, not_or] at h
    exact h.1.2.1
  refine range_cell hro h1 (gf := 73) (lb := #[.pointer (some ⟨W0.heap.size, 0, none⟩)]) rfl h73 (enters_of Try.func73 (by kernel_rfl) rfl) rfl W0.heap.size (by simp) (dg r)
    (fun l J W hW hJ hY h0 => down1_in F (n - 1) h73 hro (by omega) l W0.heap.size r hr J W ((World.cell?_of_block (a := ⟨W0.heap.size, 0, none⟩) hW).trans hcN) ((World.frozen?_of_block (a := ⟨W0.heap.size, 0, none⟩) hW).trans hfN) hJ hY h0)
    (fun pre W => ∃ u v', Own w0 W [(W0.heap.size, #[u]), (Br, #[.int .i64 r]), (Bl, #[v'])] [(v', 3, vs .i64 (xs ++ pre))])
    (fun pre A B row hs hg hr' => by
      obtain ⟨u, v', ho⟩ := hs
      exact ⟨u, v', ho.grown hg (fun k e => by obtain ⟨hk, o⟩ := hr' k e; exact ⟨by simp at hk; omega, o⟩)⟩)
    (fun pre A z hs => by
      obtain ⟨u, v', ho⟩ := hs
      exact ⟨z, v', by simpa using ho.setCell 0 0 z rfl⟩)
    ⟨_, v, by rw [List.append_nil]; exact hmN⟩
    (fun x => { tmps := #[.pointer (some ⟨Br, 0, none⟩), .pointer (some ⟨Bl, 0, none⟩), .int .i64 x, .int .i64 r, .func (.func 73) #[] #[.pointer (some ⟨W0.heap.size, 0, none⟩)], .int .i64 x, undef, undef, undef, undef], defers := [] }) ?assign ?body ?done
  case assign =>
    intro l x W K hK
    gi_wp2
    exact hK
  case body =>
    rintro l pre x W ⟨u, v', ho⟩ hlt
    have hoA := ho.alloc #[.int .i64 x] 3
    have hown := ho.get 0 rfl
    obtain ⟨hc, hf⟩ := (ho.row 2 rfl).boxed
    have hlen : (vs .i64 (xs ++ pre)).length ≤ 100031 := by rw [length_vs, List.length_append]; omega
    have hlt2 := (ho.row 0 rfl).lt
    have hneB : some W0.heap.size ≠ v'.ownBlock := by
      have h := (List.nodup_append.1 ho.apart).2.2
      intro e
      exact h W0.heap.size (List.mem_filterMap.2 ⟨_, List.mem_cons_self .., e.symm⟩) W0.heap.size (by simp) rfl
    gi_wp2_with (gi_at_builtin; refine wpListIn_append_o 0 hoA rfl rfl HE.out rfl rfl rfl (Src.one (hoA.row 0 rfl)) (one_list _ rfl) (by simp only [List.length_cons, List.length_nil]; omega) (by simp only [List.length_cons, List.length_nil]; omega) ?_; intro ad1 c1 w1 hm1 hgrow; simp only [List.set] at hm1; obtain ⟨hc1, hf1⟩ := (hm1.row 3 rfl).boxed)
    refine ⟨KeepsOthers.from ?_ _, ?_, u, .slice ad1 ((vs .i64 (xs ++ pre)).length + 1) c1, ?_⟩
    · refine ((KeepsOthers.alloc W _).trans (KeepsOthers.of_grownBy hgrow fun j o ej hj => ?_)).trans (KeepsOthers.setCell _ _ _)
      have ej : v'.ownBlock = some j := ej
      have hoS := (hoA.get 0 rfl).2
      dsimp only at hoS
      rcases hoS with ⟨hn0, _⟩ | ⟨g, cap, cur, hv0, _, hgb, _⟩
      · rw [hn0] at ej; simp [Value.ownBlock] at ej
      · rw [hv0] at ej
        obtain rfl : g = j := by simpa [Value.ownBlock] using ej
        rw [hgb] at hj; cases hj; rfl
    · exact (Below.heap_setCell _ _ _ _ hBl).trans ((hgrow.block _ (by simp; omega) hneB).trans (Below.heap_alloc _ _ _ hlt2))
    · have h := (hm1.setCell 3 0 (.slice ad1 ((vs .i64 (xs ++ pre)).length + 1) c1) rfl).dropRow
      have e : vs .i64 (xs ++ pre) ++ [.int .i64 x] = vs .i64 (xs ++ (pre ++ [x])) := by simp [vs]
      rw [← e]
      simpa using h
  case done =>
    rintro D W hD ⟨u, v', ho⟩ hK
    obtain ⟨hc, hf⟩ := (ho.row 1 rfl).boxed
    have hK2 := (KeepsOthers.setCell W ⟨Br, 0, none⟩ (.int .i64 0)).same D _ hK rfl
    have hs2 : Own w0 (W.setCell ⟨Br, 0, none⟩ (.int .i64 0)) [(W0.heap.size, #[u]), (Br, #[.int .i64 0]), (Bl, #[v'])] [(v', 3, vs .i64 (xs ++ dg r))] := by simpa using ho.setCell 1 0 (.int .i64 0) rfl
    have hDb : w0.heap.size ≤ D := by simp at hD; omega
    have hfin := (hs2.grown (grownBy_putObj' _ D (.deferred none)) (fun k e => by cases e; exact ⟨hDb, _, hK2, rfl⟩)).dropRow
    gi_wp2
    refine ⟨by simp, .inl ⟨_, _, rfl, run_takeDeferred hK2, ?_⟩⟩
    exact ⟨_, results_none rfl _ _ _, ⟨_, rfl⟩, v', hfin⟩
end Go.Proofs.Ytaccjnekonmkoaa
