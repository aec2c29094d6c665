/-
  The walks of symdec.run and symdec.step.
-/
import Derived.Test.YtaccjnekonmkoaaSdC
import Derived.Test.YtaccjnekonmkoaaRep
import Derived.Test.YtaccjnekonmkoaaZap
namespace Go.Proofs.Ytaccjnekonmkoaa
open Go Go.RowKit

/-- Onto a slice that is full: a new block. -/
theorem wpList_grow_o {P : Program} {ops : Array Oper} {rest : List Oper} {o : Oper} {a : Act} {w0 w : World} {Q : Exit → Act → World → Prop} {rs : List (Nat × Array Value)} {ss : List Sl} (hm : Own w0 w rs ss) (hgd : Region.wanted o (yielded ops a.tmps) = true) {x y : Operand} {t e : TypeId} {i : TypeInfo} {z : Value} {bytes : Nat} (ho : o.op = .call { callee := .builtin .append, args := #[x, y], argTypes := #[t, t] }) (he : ElTy P t e i z bytes)
    {ad : Addr} {n : Nat} {xs : List Value} (hx : a.eval x = .slice (some ad) n n) (hn : xs.length = n) (hold : ∀ j u, xs[j]? = some u → w.cell? (ad.add j) = some u) {bd : Addr} {m c : Nat} {news : List Value} (hy : a.eval y = .slice (some bd) m c) (hm' : news.length = m) (hnew : ∀ j u, news[j]? = some u → w.cell? (bd.add j) = some u)
    (h0 : 0 < m) (hb : (n + m) * bytes ≤ 140737488355328) (hb0 : n + m ≤ 140737488355328)
    (h : ∀ ad c w', Own w0 w' rs ((.slice ad (n + m) c, e, xs ++ news) :: ss) → wpList P ops Q rest (a.put o.dst (.slice ad (n + m) c)) w') : wpList P ops Q (o :: rest) a w := by
  have hr := run_append_grow (P := P) w t o.type e i z he.under he.info he.zero ad n n xs (by rw [he.size, hn, Nat.mul_one]) hold bd m c news (by rw [he.size, hm', Nat.mul_one]) hnew (by omega) (by omega) (by rw [he.bytes]; exact growslice_fits (by omega) hb)
  obtain ⟨g1, g2⟩ := owns_new (w := w) (base := w.heap.size) (e := e) (xs := xs) (news := news) (z := z) (n := n) (k := m) (old := n) (Nat.le_refl _) hn hm' (by simp only [maxLen]; omega) none
  rw [he.cell] at hr
  have hown : Own w0 (w.drew.alloc (.cells (xs.toArray ++ news.toArray ++ Builtin.zeroCells #[z] (grownCap w (n + m) n e - (n + m))) e)) rs ((.slice (some ⟨w.heap.size, 0, none⟩) (n + m) (grownCap w (n + m) n e), e, xs ++ news) :: ss) :=
    hm.callSl ((Below.refl _ w).grown g2 (Nat.le_refl _) (fun k hk => by cases hk)) (by rw [List.length_append, hn, hm']; exact g1)
  refine wpList_run hgd ?_ (h _ _ _ hown)
  unfold execOp
  simp only [ho, resolve, invoke, builtin, Sem.run_bind, Sem.run_pure, Result.andThen_ok, List.map_toArray, List.map_cons, List.map_nil, hx, hy, hr]
/-- The bytes of the run. -/
def DS.rep (b : DS) : List Int := List.replicate b.run.toNat (gi b.l 0)
set_option maxRecDepth 100000 in
set_option maxHeartbeats 1000000 in
theorem run_any (b : DS) (w : World) (hl : b.l.length = 256) (h0 : 0 ≤ b.run) (h1 : b.run ≤ 65536) : Calls Try.prog 74 #[.agg (V b)] w (BytesPost w b.rep) := by
  obtain ⟨k, hk⟩ := Int.eq_ofNat_of_zero_le h0
  have CR : Hid (∀ (g : Nat) (W : World), RowIs W g (V b) → Calls Try.prog 75 #[.slice (some ⟨g, 0, none⟩) 1 256, .int .i64 b.run] W (BytesPost W b.rep)) := Lib.hid (fun g W hg => by
    have h := repeat_any (gi b.l 0) _ k W (by omega) ⟨g, 0, none⟩ 256 rfl (by rw [hg.cell, getV0 hl 0 (by omega)])
    rw [hk, DS.rep, hk, Int.toNat_natCast]
    exact h)
  clear h0 h1 hk
  go_enter Try.func74, Try.ntmps74
  have hm := Own.nil w
  go_wp2_with (first
    | (refine wpList_box_o hm rfl rfl rfl ?_; intro w1 g hm1; clear hm))
  refine wp_region_ord [(0, true), (1, true), (2, true), (3, true), (4, false), (5, true)] (fun W => Below w.heap.size w W ∧ RowIs W g (V b)) rfl (by kernel_rfl) rfl (by kernel_rfl) (fun _ _ d _ _ h => by cases d <;> exact h) ⟨(hm1.drawn (w1.drawn + 1)).below, (hm1.drawn (w1.drawn + 1)).row 0 rfl⟩ ?_
  have hn := hm1.drawn (w1.drawn + 1)
  generalize ({ w1 with drawn := w1.drawn + 1 } : World) = wn at hn ⊢
  refine ord_readl rfl rfl (fun W hW => by go_simp; rfl) ?_
  simp only [Act.put, List.setIfInBounds_toArray, List.set_cons_zero, List.set_cons_succ]
  refine ord_readl rfl rfl (fun W hW => exec_slice_arr rfl Try.underlying23 sz5 rfl 0 1 (.inl ⟨rfl, rfl⟩) (.inr ⟨1, rfl, rfl⟩) (by omega) (by omega) (by omega) rfl rfl rfl) ?_
  simp only [Act.put, List.setIfInBounds_toArray, List.set_cons_zero, List.set_cons_succ]
  refine ord_readl rfl rfl (fun W hW => by go_simp; rfl) ?_
  simp only [Act.put, List.setIfInBounds_toArray, List.set_cons_zero, List.set_cons_succ]
  refine ord_readl rfl rfl (fun W hW => exec_loadcell' (off := 257) rfl rfl hW.2 one3 (getV2 hl)) ?_
  simp only [Act.put, List.setIfInBounds_toArray, List.set_cons_zero, List.set_cons_succ]
  refine ord_dol rfl rfl (fun K hK => ?_)
  go_simp
  refine (CR.out _ _ (hn.row 0 rfl)).mono ?_
  rintro e v1 ⟨⟨gT, cells, rfl, hrT, hgT, htT⟩, hb1⟩
  have k1 := hn.callRow hb1 hrT hgT
  clear hn
  refine hK _ _ ⟨_, fun _ h => h, ⟨k1.below, k1.row 1 rfl⟩, ?_⟩
  clear hK K
  refine ord_readl rfl rfl (fun W hW => by go_simp; rfl) ?_
  simp only [Act.put, List.setIfInBounds_toArray, List.set_cons_zero, List.set_cons_succ]
  refine ord_nil ?_
  go_simp
  go_wp2
  go_ret
  exact ⟨⟨gT, cells, rfl, k1.row 0 rfl, k1.mem.own _ (List.mem_cons_self ..), htT⟩, k1.below⟩
/-- What step makes of a symbol. -/
def dstep (b : DS) (s : Int) : DS × List Int × Bool :=
  if s = 0 ∨ s = 1 then ({ b with run := addV b.run b.dig s, dig := b.dig + 1 }, [], decide (addV b.run b.dig s ≤ b.left))
  else if s = 257 then (⟨b.l, 0, 0, 0, true⟩, b.rep, decide (b.run = b.left))
  else if b.run = b.left then (b, [], false)
  else (⟨takeL b.l (s - 1), b.left - (b.run + 1), 0, 0, false⟩, b.rep ++ [takeC b.l (s - 1)], true)
/-- What may be read, and lies in no block below base. -/
def SrcF (base : Nat) (w : World) (v : Value) (xs : List Value) : Prop := (v = .slice none 0 0 ∧ xs = []) ∨ ∃ ad c, v = .slice (some ad) xs.length c ∧ base ≤ ad.block ∧ (∀ j u, xs[j]? = some u → w.cell? (ad.add j) = some u)
theorem SrcF.src {base : Nat} {w : World} {v : Value} {xs : List Value} (h : SrcF base w v xs) : Src w v xs := by
  rcases h with h | ⟨ad, c, h1, _, h2⟩
  · exact .inl h
  · exact .inr ⟨ad, c, h1, h2⟩
theorem SrcF.of_owned {base : Nat} {w : World} {e : TypeId} {v : Value} {xs : List Value} (h : w.ownsRow base e 1 v xs.length xs) : SrcF base w v xs := by
  rcases h.2 with ⟨rfl, h0⟩ | ⟨g, cap, cur, rfl, hg, _⟩
  · exact .inl ⟨rfl, List.length_eq_zero_iff.1 h0⟩
  · exact .inr ⟨⟨g, 0, none⟩, cap, rfl, hg, fun j u hj => h.cells (g := g) rfl j u hj⟩
theorem SrcF.below {base : Nat} {w w' : World} {v : Value} {xs : List Value} (h : SrcF base w v xs) (hb : Below w.heap.size w w') : SrcF base w' v xs := by
  rcases h with h | ⟨ad, c, rfl, h1, hc⟩
  · exact .inl h
  · exact .inr ⟨ad, c, rfl, h1, fun j u hj => (hb.cell (block_lt_of_cell (hc j u hj))).trans (hc j u hj)⟩
theorem SrcF.mono {base base' : Nat} {w : World} {v : Value} {xs : List Value} (h : SrcF base w v xs) (hb : base' ≤ base) : SrcF base' w v xs := by
  rcases h with h | ⟨ad, c, h0, h1, hc⟩
  · exact .inl h
  · exact .inr ⟨ad, c, h0, Nat.le_trans hb h1, hc⟩
theorem SrcF.setRow {base : Nat} {w : World} {v : Value} {xs : List Value} (h : SrcF base w v xs) {g : Nat} (hg : g < base) (cs : Array Value) : SrcF base (w.setRow g cs) v xs := by
  rcases h with h | ⟨ad, c, h0, h1, hc⟩
  · exact .inl h
  · refine .inr ⟨ad, c, h0, h1, fun j u hj => ?_⟩
    rw [← hc j u hj]
    refine World.cell?_of_block ?_
    have hb : (ad.add j).block = ad.block := by unfold Addr.add; split <;> rfl
    exact setRow_other w g _ cs (by rw [hb]; omega)
theorem SrcF.shape {base : Nat} {w : World} {v : Value} {l : List Int} (h : SrcF base w v (vs .u8 l)) : ∃ a c, v = .slice a l.length c := by
  rcases h with ⟨rfl, h0⟩ | ⟨ad, c, rfl, _⟩
  · have := congrArg List.length h0
    rw [length_vs] at this
    exact ⟨none, 0, by rw [this]; rfl⟩
  · exact ⟨some ad, c, by rw [length_vs]⟩
def StPost (w : World) (o : DS) (t : List Int) (f : Bool) (x : Ending) (w' : World) : Prop := (∃ v, x = .returned (.tuple #[.agg (V o), v, .bool f]) ∧ SrcF w.heap.size w' v (vs .u8 t)) ∧ Below w.heap.size w w'
theorem ord_store_ol {P : Program} {ops : Array Oper} {Q : Exit → Act → World → Prop} {i : Nat} {r : List (Nat × Bool)} {S : World → Prop} {a : Act} {w w0 : World} {o : Oper} {rs : List (Nat × Array Value)} {ss : List Sl} (j : Nat) (hm : Own w0 w rs ss) (ho : ops.toList[i]? = some o) (hw : Region.wanted o (yielded ops a.tmps) = true) {ty : TypeId} {x y : Operand} (hop : o.op = .store ty x y) {g : Nat} (hx : a.eval x = .pointer (some ⟨g, 0, none⟩)) {vs cs : Array Value} (hy : a.eval y = .agg vs)
    (hi : rs[j]? = some (g, cs)) (ht : AggTy P ty vs.size) (hs : vs.size = cs.size) (h1 : ∀ v ∈ vs, v.oneCell' = true)
    (hS : ∀ w', Own w0 w' (rs.set j (g, vs)) ss → S w') (h : ∀ w', Own w0 w' (rs.set j (g, vs)) ss → wpOrd P ops Q r S (a.put o.dst undef) w') : wpOrd P ops Q ((i, false) :: r) S a w :=
  ord_store_o j hm (by rw [← Array.getElem?_toList]; exact ho) hw hop hx hy hi ht hs h1 hS h
set_option maxRecDepth 100000 in
set_option maxHeartbeats 2000000 in
theorem step_0 (b : DS) (w : World) (hl : b.l.length = 256) (hd0 : 0 ≤ b.dig) (hd1 : b.dig ≤ 100) : Calls Try.prog 71 #[.agg (V b), .int .i64 0] w (StPost w { b with run := addV b.run b.dig 0, dig := b.dig + 1 } [] (decide (addV b.run b.dig 0 ≤ b.left))) := by
  have CA : Hid (∀ w, Calls Try.prog 38 #[.int .i64 b.run, .int .i64 b.dig, .int .i64 0] w (PairPost w (addV b.run b.dig 0) (addE b.run b.dig 0))) := fun w => add_any b.run b.dig 0 w
  generalize addV b.run b.dig 0 = N at *
  generalize addE b.run b.dig 0 = E at *
  have l1 : ({ b with run := N } : DS).l.length = 256 := hl
  have l2 : ({ b with run := N, dig := b.dig + 1 } : DS).l.length = 256 := hl
  have hw : IntKind.i64.wrap (b.dig + 1) = b.dig + 1 := IntWalk.i64_in _ (by omega)
  go_enter Try.func71, Try.ntmps71
  have hm := Own.nil w
  go_wp2_with (first
    | (refine wpList_box_o hm rfl rfl rfl ?_; intro w1 g hm1; clear hm)
    | (refine wpList_alloc_o hm1 rfl rfl zero70 ?_; intro w2 g2 hm2; clear hm1)
    | (refine wpList_run rfl (exec_loadcell' (off := 257) rfl rfl (hm2.row 1 rfl) one3 (getV2 hl)) ?_)
    | (refine wpList_run rfl (exec_loadcell' (off := 258) rfl rfl (hm2.row 1 rfl) one3 (getV3 hl)) ?_)
    | (go_at_call 38; have _t := hm2; refine (CA.out _).mono ?_; rintro e w3 ⟨rfl, hb3⟩; have hm3 := hm2.call hb3; clear hm2)
    | (refine wpList_storecell_o (v := .int .i64 N) 1 hm3 rfl rfl rfl rfl rfl one3 (ltV hl 1 (by omega)) rfl rfl (setV2 hl _) ?_; intro w4 hm4; simp only [List.set] at hm4; clear hm3)
    | (refine wpList_run rfl (exec_loadcell' (off := 258) rfl rfl (hm4.row 1 rfl) one3 (getV3 (b := { b with run := N }) l1)) ?_)
    | (refine wpList_storecell_o (v := .int .i64 (b.dig + 1)) 1 hm4 rfl rfl rfl rfl rfl one3 (ltV (b := { b with run := N }) l1 2 (by omega)) rfl rfl (setV3 (b := { b with run := N }) l1 _) ?_; intro w5 hm5; simp only [List.set] at hm5; clear hm4))
  refine wp_region_ord [(0, true), (1, true), (2, true), (3, true), (4, true), (5, true), (6, false), (7, true), (8, true)] (fun W => Below w.heap.size w W ∧ RowIs W g (V { b with run := N, dig := b.dig + 1 })) rfl (by kernel_rfl) rfl (by kernel_rfl) (fun _ _ d _ _ h => by cases d <;> exact h) ⟨(hm5.drawn (w5.drawn + 1)).below, (hm5.drawn (w5.drawn + 1)).row 1 rfl⟩ ?_
  have hn := hm5.drawn (w5.drawn + 1)
  generalize ({ w5 with drawn := w5.drawn + 1 } : World) = wn at hn ⊢
  refine ord_readl rfl rfl (fun W hW => exec_load_all rfl rfl hW.2 (aggV (b := { b with run := N, dig := b.dig + 1 }) l2)) ?_
  simp only [Act.put, List.setIfInBounds_toArray, List.set_cons_zero, List.set_cons_succ]
  refine ord_readl rfl rfl (fun W hW => by go_simp; rfl) ?_
  simp only [Act.put, List.setIfInBounds_toArray, List.set_cons_zero, List.set_cons_succ]
  refine ord_readl rfl rfl (fun W hW => exec_loadcell' (off := 257) rfl rfl hW.2 one3 (getV2 (b := { b with run := N, dig := b.dig + 1 }) l2)) ?_
  simp only [Act.put, List.setIfInBounds_toArray, List.set_cons_zero, List.set_cons_succ]
  refine ord_readl rfl rfl (fun W hW => by go_simp; rfl) ?_
  simp only [Act.put, List.setIfInBounds_toArray, List.set_cons_zero, List.set_cons_succ]
  refine ord_readl rfl rfl (fun W hW => exec_loadcell' (off := 256) rfl rfl hW.2 one3 (getV1 (b := { b with run := N, dig := b.dig + 1 }) l2)) ?_
  simp only [Act.put, List.setIfInBounds_toArray, List.set_cons_zero, List.set_cons_succ]
  refine ord_readl rfl rfl (fun W hW => by go_simp; rfl) ?_
  simp only [Act.put, List.setIfInBounds_toArray, List.set_cons_zero, List.set_cons_succ]
  refine ord_store_ol 0 hn rfl rfl rfl rfl rfl rfl (aggV (b := { b with run := N, dig := b.dig + 1 }) l2) (size_VV (b := { b with run := N, dig := b.dig + 1 }) l2 len_DS0) (V_one _) (fun w' h => ⟨h.below, h.row 1 rfl⟩) (fun w6 hm6 => ?_)
  simp only [Act.put]
  simp only [List.set] at hm6
  refine ord_readl rfl rfl (fun W hW => by go_simp; rfl) ?_
  simp only [Act.put, List.setIfInBounds_toArray, List.set_cons_zero, List.set_cons_succ]
  refine ord_readl rfl rfl (fun W hW => by go_simp; rfl) ?_
  simp only [Act.put, List.setIfInBounds_toArray, List.set_cons_zero, List.set_cons_succ]
  refine ord_nil ?_
  go_simp
  go_wp2
  refine bodyPost_ret (results_agg3 rfl rfl (hm6.row 0 rfl) (aggV (b := { b with run := N, dig := b.dig + 1 }) l2)) rfl ?_
  exact ⟨⟨_, rfl, .inl ⟨rfl, rfl⟩⟩, hm6.below⟩
set_option maxRecDepth 100000 in
set_option maxHeartbeats 2000000 in
theorem step_1 (b : DS) (w : World) (hl : b.l.length = 256) (hd0 : 0 ≤ b.dig) (hd1 : b.dig ≤ 100) : Calls Try.prog 71 #[.agg (V b), .int .i64 1] w (StPost w { b with run := addV b.run b.dig 1, dig := b.dig + 1 } [] (decide (addV b.run b.dig 1 ≤ b.left))) := by
  have CA : Hid (∀ w, Calls Try.prog 38 #[.int .i64 b.run, .int .i64 b.dig, .int .i64 1] w (PairPost w (addV b.run b.dig 1) (addE b.run b.dig 1))) := fun w => add_any b.run b.dig 1 w
  generalize addV b.run b.dig 1 = N at *
  generalize addE b.run b.dig 1 = E at *
  have l1 : ({ b with run := N } : DS).l.length = 256 := hl
  have l2 : ({ b with run := N, dig := b.dig + 1 } : DS).l.length = 256 := hl
  have hw : IntKind.i64.wrap (b.dig + 1) = b.dig + 1 := IntWalk.i64_in _ (by omega)
  go_enter Try.func71, Try.ntmps71
  have hm := Own.nil w
  go_wp2_with (first
    | (refine wpList_box_o hm rfl rfl rfl ?_; intro w1 g hm1; clear hm)
    | (refine wpList_alloc_o hm1 rfl rfl zero70 ?_; intro w2 g2 hm2; clear hm1)
    | (refine wpList_run rfl (exec_loadcell' (off := 257) rfl rfl (hm2.row 1 rfl) one3 (getV2 hl)) ?_)
    | (refine wpList_run rfl (exec_loadcell' (off := 258) rfl rfl (hm2.row 1 rfl) one3 (getV3 hl)) ?_)
    | (go_at_call 38; have _t := hm2; refine (CA.out _).mono ?_; rintro e w3 ⟨rfl, hb3⟩; have hm3 := hm2.call hb3; clear hm2)
    | (refine wpList_storecell_o (v := .int .i64 N) 1 hm3 rfl rfl rfl rfl rfl one3 (ltV hl 1 (by omega)) rfl rfl (setV2 hl _) ?_; intro w4 hm4; simp only [List.set] at hm4; clear hm3)
    | (refine wpList_run rfl (exec_loadcell' (off := 258) rfl rfl (hm4.row 1 rfl) one3 (getV3 (b := { b with run := N }) l1)) ?_)
    | (refine wpList_storecell_o (v := .int .i64 (b.dig + 1)) 1 hm4 rfl rfl rfl rfl rfl one3 (ltV (b := { b with run := N }) l1 2 (by omega)) rfl rfl (setV3 (b := { b with run := N }) l1 _) ?_; intro w5 hm5; simp only [List.set] at hm5; clear hm4))
  refine wp_region_ord [(0, true), (1, true), (2, true), (3, true), (4, true), (5, true), (6, false), (7, true), (8, true)] (fun W => Below w.heap.size w W ∧ RowIs W g (V { b with run := N, dig := b.dig + 1 })) rfl (by kernel_rfl) rfl (by kernel_rfl) (fun _ _ d _ _ h => by cases d <;> exact h) ⟨(hm5.drawn (w5.drawn + 1)).below, (hm5.drawn (w5.drawn + 1)).row 1 rfl⟩ ?_
  have hn := hm5.drawn (w5.drawn + 1)
  generalize ({ w5 with drawn := w5.drawn + 1 } : World) = wn at hn ⊢
  refine ord_readl rfl rfl (fun W hW => exec_load_all rfl rfl hW.2 (aggV (b := { b with run := N, dig := b.dig + 1 }) l2)) ?_
  simp only [Act.put, List.setIfInBounds_toArray, List.set_cons_zero, List.set_cons_succ]
  refine ord_readl rfl rfl (fun W hW => by go_simp; rfl) ?_
  simp only [Act.put, List.setIfInBounds_toArray, List.set_cons_zero, List.set_cons_succ]
  refine ord_readl rfl rfl (fun W hW => exec_loadcell' (off := 257) rfl rfl hW.2 one3 (getV2 (b := { b with run := N, dig := b.dig + 1 }) l2)) ?_
  simp only [Act.put, List.setIfInBounds_toArray, List.set_cons_zero, List.set_cons_succ]
  refine ord_readl rfl rfl (fun W hW => by go_simp; rfl) ?_
  simp only [Act.put, List.setIfInBounds_toArray, List.set_cons_zero, List.set_cons_succ]
  refine ord_readl rfl rfl (fun W hW => exec_loadcell' (off := 256) rfl rfl hW.2 one3 (getV1 (b := { b with run := N, dig := b.dig + 1 }) l2)) ?_
  simp only [Act.put, List.setIfInBounds_toArray, List.set_cons_zero, List.set_cons_succ]
  refine ord_readl rfl rfl (fun W hW => by go_simp; rfl) ?_
  simp only [Act.put, List.setIfInBounds_toArray, List.set_cons_zero, List.set_cons_succ]
  refine ord_store_ol 0 hn rfl rfl rfl rfl rfl rfl (aggV (b := { b with run := N, dig := b.dig + 1 }) l2) (size_VV (b := { b with run := N, dig := b.dig + 1 }) l2 len_DS0) (V_one _) (fun w' h => ⟨h.below, h.row 1 rfl⟩) (fun w6 hm6 => ?_)
  simp only [Act.put]
  simp only [List.set] at hm6
  refine ord_readl rfl rfl (fun W hW => by go_simp; rfl) ?_
  simp only [Act.put, List.setIfInBounds_toArray, List.set_cons_zero, List.set_cons_succ]
  refine ord_readl rfl rfl (fun W hW => by go_simp; rfl) ?_
  simp only [Act.put, List.setIfInBounds_toArray, List.set_cons_zero, List.set_cons_succ]
  refine ord_nil ?_
  go_simp
  go_wp2
  refine bodyPost_ret (results_agg3 rfl rfl (hm6.row 0 rfl) (aggV (b := { b with run := N, dig := b.dig + 1 }) l2)) rfl ?_
  exact ⟨⟨_, rfl, .inl ⟨rfl, rfl⟩⟩, hm6.below⟩
set_option maxRecDepth 100000 in
set_option maxHeartbeats 2000000 in
theorem step_eob (b : DS) (w : World) (hl : b.l.length = 256) (h0 : 0 ≤ b.run) (h1 : b.run ≤ 65536) : Calls Try.prog 71 #[.agg (V b), .int .i64 257] w (StPost w ⟨b.l, 0, 0, 0, true⟩ b.rep (decide (b.run = b.left))) := by
  have CR : Hid (∀ w, Calls Try.prog 74 #[.agg (V b)] w (BytesPost w b.rep)) := fun w => run_any b w hl h0 h1
  have l2 : (⟨b.l, 0, 0, 0, true⟩ : DS).l.length = 256 := hl
  have EB : Hid (∀ r : Bool, (b.run == b.left) = r → decide (b.run = b.left) = r) := Lib.hid (fun r h => by rw [← h]; rfl)
  generalize hrep : b.rep = R at *
  clear hrep h0 h1
  go_enter Try.func71, Try.ntmps71
  have hm := Own.nil w
  go_wp2_with (first
    | (refine wpList_box_o hm rfl rfl rfl ?_; intro w1 g hm1; clear hm)
    | (refine wpList_alloc_o hm1 rfl rfl zero70 ?_; intro w2 g2 hm2; clear hm1))
  refine wp_region_ord [(0, true), (1, true), (2, true), (3, true), (5, true), (6, true), (7, true), (8, true), (9, true), (4, false), (10, false), (11, true), (12, true)] (fun W => Below w.heap.size w W ∧ RowIs W g (V b)) rfl (by kernel_rfl) rfl (by kernel_rfl) (fun _ _ d _ _ h => by cases d <;> exact h) ⟨(hm2.drawn (w2.drawn + 1)).below, (hm2.drawn (w2.drawn + 1)).row 1 rfl⟩ ?_
  have hn := hm2.drawn (w2.drawn + 1)
  generalize ({ w2 with drawn := w2.drawn + 1 } : World) = wn at hn ⊢
  refine ord_readl rfl rfl (fun W hW => by go_simp; rfl) ?_
  simp only [Act.put, List.setIfInBounds_toArray, List.set_cons_zero, List.set_cons_succ]
  refine ord_readl rfl rfl (fun W hW => exec_load_part rfl rfl hW.2 (aggB _ hl) (extract_V hl) (fitV hl)) ?_
  simp only [Act.put, List.setIfInBounds_toArray, List.set_cons_zero, List.set_cons_succ]
  refine ord_readl rfl rfl (fun W hW => exec_build70_4 rfl rfl rfl hl) ?_
  simp only [Act.put, List.setIfInBounds_toArray, List.set_cons_zero, List.set_cons_succ]
  refine ord_readl rfl rfl (fun W hW => exec_load_all rfl rfl hW.2 (aggV hl)) ?_
  simp only [Act.put, List.setIfInBounds_toArray, List.set_cons_zero, List.set_cons_succ]
  refine ord_readl rfl rfl (fun W hW => by go_simp; rfl) ?_
  simp only [Act.put, List.setIfInBounds_toArray, List.set_cons_zero, List.set_cons_succ]
  refine ord_readl rfl rfl (fun W hW => exec_loadcell' (off := 257) rfl rfl hW.2 one3 (getV2 hl)) ?_
  simp only [Act.put, List.setIfInBounds_toArray, List.set_cons_zero, List.set_cons_succ]
  refine ord_readl rfl rfl (fun W hW => by go_simp; rfl) ?_
  simp only [Act.put, List.setIfInBounds_toArray, List.set_cons_zero, List.set_cons_succ]
  refine ord_readl rfl rfl (fun W hW => exec_loadcell' (off := 256) rfl rfl hW.2 one3 (getV1 hl)) ?_
  simp only [Act.put, List.setIfInBounds_toArray, List.set_cons_zero, List.set_cons_succ]
  refine ord_readl rfl rfl (fun W hW => by go_simp; rfl) ?_
  simp only [Act.put, List.setIfInBounds_toArray, List.set_cons_zero, List.set_cons_succ]
  refine ord_dol rfl rfl (fun K hK => ?_)
  go_simp
  refine (CR.out _).mono ?_
  rintro e v1 ⟨⟨gT, cells, rfl, hrT, hgT, htT⟩, hb1⟩
  have k1 := hn.callRow hb1 hrT hgT
  clear hn
  refine hK _ _ ⟨_, fun _ h => h, ⟨k1.below, k1.row 2 rfl⟩, ?_⟩
  clear hK K
  try simp only [Act.put, List.setIfInBounds_toArray, List.set_cons_zero, List.set_cons_succ]
  refine ord_store_ol 1 k1 rfl rfl rfl rfl rfl rfl (aggV (b := ⟨b.l, 0, 0, 0, true⟩) l2) (size_VV (b := ⟨b.l, 0, 0, 0, true⟩) l2 len_DS0) (V_one _) (fun w' h => ⟨h.below, h.row 2 rfl⟩) (fun w6 hm6 => ?_)
  simp only [Act.put]
  simp only [List.set] at hm6
  refine ord_readl rfl rfl (fun W hW => by go_simp; rfl) ?_
  simp only [Act.put, List.setIfInBounds_toArray, List.set_cons_zero, List.set_cons_succ]
  refine ord_readl rfl rfl (fun W hW => by go_simp; rfl) ?_
  simp only [Act.put, List.setIfInBounds_toArray, List.set_cons_zero, List.set_cons_succ]
  refine ord_nil ?_
  go_simp
  go_wp2
  refine bodyPost_ret (results_agg3 rfl rfl (hm6.row 1 rfl) (aggV (b := ⟨b.l, 0, 0, 0, true⟩) l2)) rfl ?_
  refine ⟨⟨_, ?_, .inr ⟨⟨gT, 0, none⟩, R.length, by rw [length_vs], hm6.mem.own _ (List.mem_cons_self ..), row_hold (hm6.row 0 rfl) htT⟩⟩, hm6.below⟩
  show Ending.returned (Value.tuple #[_, _, Value.bool _]) = _
  rfl
end Go.Proofs.Ytaccjnekonmkoaa
