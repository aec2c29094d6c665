/-
  The walk of winepresslaw13.MtfBack.
-/
import Derived.Test.YtaccjnekonmkoaaMtfTw
namespace Go.Proofs.Ytaccjnekonmkoaa
open Go Go.RowKit

theorem exec_neqstr {o : Oper} {a : Act} {w : World} {t t' : TypeId} {x y : Operand} (ho : o.op = .binOp .neq t x y t') {p q : ByteArray} (hx : a.eval x = .string p) (hy : a.eval y = .string q) {b : Bool} (hb : (!(p.toList == q.toList)) = b) :
    (execOp a.eval o).run Try.prog w = .ok (.value (.bool b)) w := by
  subst hb
  unfold execOp
  simp only [ho, hx, hy, eqGuard_at_string, Sem.run_bind, Sem.run_pure, Result.andThen_ok]
  simp [binOp, Op.stringOp, Result.andThen]
theorem Src.inp {w : World} {k : IntKind} {v : Value} {l : List Int} (h : Src w v (vs k l)) : In k w v l := by
  rcases h with ⟨rfl, h0⟩ | ⟨A, c, rfl, hc⟩
  · have hl : l = [] := by simpa [vs] using h0
    subst hl
    exact In.nil k w
  · refine ⟨some A, c, by rw [length_vs], fun i hi => ⟨A, rfl, hc i _ ?_⟩⟩
    simp [vs, gi, List.getD_eq_getElem?_getD, List.getElem?_eq_getElem hi]
theorem exec_tostr_in {w : World} {o : Oper} {a : Act} {x : Operand} (ho : o.op = .convert 24 9 x) {l : List Int} {v : Value} (hx : a.eval x = v) (hv : In .u8 w v l) : (execOp a.eval o).run Try.prog w = .ok (.value (.string (str l))) w := by
  obtain ⟨ad, c, rfl, hc⟩ := hv
  refine exec_tostr ho Try.underlying24 Try.underlying5 Try.underlying9 hx (fun h => ?_) (fun A h j u hj => ?_)
  · cases l with
    | nil => rfl
    | cons y l =>
      obtain ⟨A, hA, _⟩ := hc 0 (by simp)
      rw [h] at hA
      cases hA
  · have hjl : j < l.length := by
      have := (List.getElem?_eq_some_iff.1 hj).1
      rwa [length_vs] at this
    obtain ⟨A', e, hA⟩ := hc j hjl
    rw [h] at e
    cases e
    rw [hA, ← hj]
    simp [vs, gi, List.getD_eq_getElem?_getD, List.getElem?_eq_getElem hjl]
theorem Src.at {w : World} {A : Addr} {n c j : Nat} {xs : List Value} {u : Value} (h : Src w (.slice (some A) n c) xs) (hj : xs[j]? = some u) : w.cell? (A.add j) = some u := by
  rcases h with ⟨h, _⟩ | ⟨A', c', h, hc⟩
  · cases h
  · cases h
    exact hc j u hj
theorem ord_read_l {P : Program} {ops : Array Oper} {Q : Exit → Act → World → Prop} {i : Nat} {r : List (Nat × Bool)} {S : World → Prop} {a : Act} {w : World} {o : Oper} {v : Value} (ho : ops.toList[i]? = some o) (hw : Region.wanted o (yielded ops a.tmps) = true)
    (hrun : ∀ W, S W → (execOp a.eval o).run P W = .ok (.value v) W) (h : wpOrd P ops Q r S (a.put o.dst v) w) : wpOrd P ops Q ((i, true) :: r) S a w :=
  ord_read (by rw [← Array.getElem?_toList]; exact ho) hw hrun h
theorem ord_do_l {P : Program} {ops : Array Oper} {Q : Exit → Act → World → Prop} {i : Nat} {r : List (Nat × Bool)} {S : World → Prop} {a : Act} {w : World} {o : Oper} (ho : ops.toList[i]? = some o) (hw : Region.wanted o (yielded ops a.tmps) = true)
    (h : ∀ K : Act → World → Prop, (∀ a' w', (∃ S' : World → Prop, (∀ W, S' W → S W) ∧ S' w' ∧ wpOrd P ops Q r S' a' w') → K a' w') → o.wp P a w K Q) : wpOrd P ops Q ((i, false) :: r) S a w :=
  ord_do (by rw [← Array.getElem?_toList]; exact ho) hw h

set_option maxRecDepth 100000 in
set_option maxHeartbeats 4000000 in
theorem back13 (v : Value) (b : List Int) (w : World) (hv : In .u8 w v b) (hb : Bytes b) : Calls Try.prog 4 #[v] w fun e w' => e = .returned (.bool true) ∧ Below w.heap.size w w' := by
  by_cases hn : b.length ≤ 400
  · obtain ⟨ad, cp, rfl, hc⟩ := hv
    obtain ⟨i5, hE⟩ := el24
    have HV : Hid (In .u8 w (.slice ad b.length cp) b) := ⟨ad, cp, rfl, hc⟩
    have HC := Lib.hid hc
    have HE := Lib.hid hE
    have HB := Lib.hid hb
    have HF : Hid (back (forth b) = b) := back_forth hb
    have HG : Hid (forth (back b) = b) := forth_back hb
    have hn1 : ¬ (400 : Int) < b.length := by omega
    have hn2 : decide ((400 : Int) < b.length) = false := decide_eq_false hn1
    clear hc hE hb
    go_enter Try.func4, Try.ntmps4
    have hm := Own.nil w
    go_wp2_with (first
      | (go_at_call 29; refine (forth_any _ b _ HV.out HB.out (by omega)).mono ?_; rintro e w1 ⟨⟨r1, rfl, ho1⟩, hb1⟩; obtain ⟨a1, c1, rfl⟩ := owns_shape ho1; have hm1 := hm.callSl hb1 (owns_len ho1 (len_forth _)); clear hm))
    refine wp_region_ord [(0, true), (1, true), (2, true), (3, true), (4, true), (5, true), (6, true), (9, true), (10, true), (7, false), (8, true), (11, true), (12, true), (13, true), (14, true), (18, true), (19, true), (15, false), (16, false), (17, true), (20, true), (21, true)]
      (fun W => Below w.heap.size w W) rfl (by kernel_rfl) rfl (by kernel_rfl) (fun _ _ d _ _ h => by cases d <;> exact h) (hm1.drawn (w1.drawn + 1)).below ?_
    have hm2 := hm1.drawn (w1.drawn + 1)
    generalize ({ w1 with drawn := w1.drawn + 1 } : World) = w2 at hm2 ⊢
    clear hm1
    refine ord_read_l rfl rfl (fun W hW => by go_simp; rfl) ?_
    simp only [Act.put, List.setIfInBounds_toArray, List.set_cons_zero, List.set_cons_succ]
    refine ord_read_l rfl rfl (fun W hW => by go_simp; rfl) ?_
    simp only [Act.put, List.setIfInBounds_toArray, List.set_cons_zero, List.set_cons_succ]
    refine ord_read_l rfl rfl (fun W hW => by go_simp; rfl) ?_
    simp only [Act.put, List.setIfInBounds_toArray, List.set_cons_zero, List.set_cons_succ]
    refine ord_read_l rfl rfl (fun W hW => by go_simp; rfl) ?_
    simp only [Act.put, List.setIfInBounds_toArray, List.set_cons_zero, List.set_cons_succ]
    refine ord_read_l rfl rfl (fun W hW => by go_simp; rfl) ?_
    simp only [Act.put, List.setIfInBounds_toArray, List.set_cons_zero, List.set_cons_succ]
    refine ord_read_l rfl rfl (fun W hW => by go_simp; rfl) ?_
    simp only [Act.put, List.setIfInBounds_toArray, List.set_cons_zero, List.set_cons_succ]
    refine ord_read_l rfl rfl (fun W hW => by go_simp; rfl) ?_
    simp only [Act.put, List.setIfInBounds_toArray, List.set_cons_zero, List.set_cons_succ]
    refine ord_read_l rfl rfl (fun W hW => by go_simp; rfl) ?_
    simp only [Act.put, List.setIfInBounds_toArray, List.set_cons_zero, List.set_cons_succ]
    refine ord_read_l rfl rfl (fun W hW => exec_tostr_in (v := .slice ad b.length cp) rfl rfl (HV.out.below hW)) ?_
    simp only [Act.put, List.setIfInBounds_toArray, List.set_cons_zero, List.set_cons_succ]
    refine ord_do_l rfl rfl (fun K hK => ?_)
    go_simp
    refine (back_any _ (forth b) _ (Src.of_owned (hm2.get 0 rfl)).inp (bytes_forth HB.out) (by rw [len_forth]; omega)).mono ?_
    rintro e w3 ⟨⟨r3, rfl, ho3⟩, hb3⟩
    have hm3 := hm2.callSl hb3 (owns_len ho3 (len_back _))
    rw [HF.out] at hm3
    refine hK _ _ ⟨fun W => Below w.heap.size w W ∧ Src W r3 (vs .u8 b), fun _ h => h.1, ⟨hm3.below, Src.of_owned (hm3.get 0 rfl)⟩, ?_⟩
    clear hK K hm2 ho3
    refine ord_read_l rfl rfl (fun W hW => exec_tostr_src (v := r3) rfl Try.underlying24 Try.underlying5 Try.underlying9 rfl hW.2) ?_
    simp only [Act.put, List.setIfInBounds_toArray, List.set_cons_zero, List.set_cons_succ]
    refine ord_read_l rfl rfl (fun W hW => exec_neqstr rfl rfl rfl (b := false) (by simp)) ?_
    simp only [Act.put, List.setIfInBounds_toArray, List.set_cons_zero, List.set_cons_succ]
    refine ord_read_l rfl rfl (fun W hW => by go_simp; rfl) ?_
    simp only [Act.put, List.setIfInBounds_toArray, List.set_cons_zero, List.set_cons_succ]
    refine ord_read_l rfl rfl (fun W hW => by go_simp; rfl) ?_
    simp only [Act.put, List.setIfInBounds_toArray, List.set_cons_zero, List.set_cons_succ]
    refine ord_read_l rfl rfl (fun W hW => by go_simp; rfl) ?_
    simp only [Act.put, List.setIfInBounds_toArray, List.set_cons_zero, List.set_cons_succ]
    refine ord_read_l rfl rfl (fun W hW => by go_simp; rfl) ?_
    simp only [Act.put, List.setIfInBounds_toArray, List.set_cons_zero, List.set_cons_succ]
    refine ord_read_l rfl rfl (fun W hW => exec_tostr_in (v := .slice ad b.length cp) rfl rfl (HV.out.below hW.1)) ?_
    simp only [Act.put, List.setIfInBounds_toArray, List.set_cons_zero, List.set_cons_succ]
    refine ord_do_l rfl rfl (fun K hK => ?_)
    go_simp
    refine (back_any _ b _ (HV.out.below hm3.below) HB.out (by omega)).mono ?_
    rintro e w4 ⟨⟨r4, rfl, ho4⟩, hb4⟩
    have hm4 := hm3.callSl hb4 (owns_len ho4 (len_back _))
    refine hK _ _ ⟨fun W => Below w.heap.size w W ∧ Src W r3 (vs .u8 b), fun _ h => h, ⟨hm4.below, Src.of_owned (hm4.get 1 rfl)⟩, ?_⟩
    clear hK K hm3 ho4
    refine ord_do_l rfl rfl (fun K hK => ?_)
    go_simp
    refine (forth_any _ (back b) _ (Src.of_owned (hm4.get 0 rfl)).inp (bytes_back b) (by rw [len_back]; omega)).mono ?_
    rintro e w5 ⟨⟨r5, rfl, ho5⟩, hb5⟩
    have hm5 := hm4.callSl hb5 (owns_len ho5 (len_forth _))
    rw [HG.out] at hm5
    refine hK _ _ ⟨fun W => (Below w.heap.size w W ∧ Src W r3 (vs .u8 b)) ∧ Src W r5 (vs .u8 b), fun _ h => h.1, ⟨⟨hm5.below, Src.of_owned (hm5.get 2 rfl)⟩, Src.of_owned (hm5.get 0 rfl)⟩, ?_⟩
    clear hK K hm4 ho5
    refine ord_read_l rfl rfl (fun W hW => exec_tostr_src (v := r5) rfl Try.underlying24 Try.underlying5 Try.underlying9 rfl hW.2) ?_
    simp only [Act.put, List.setIfInBounds_toArray, List.set_cons_zero, List.set_cons_succ]
    refine ord_read_l rfl rfl (fun W hW => exec_neqstr rfl rfl rfl (b := false) (by simp)) ?_
    simp only [Act.put, List.setIfInBounds_toArray, List.set_cons_zero, List.set_cons_succ]
    refine ord_read_l rfl rfl (fun W hW => by go_simp; rfl) ?_
    simp only [Act.put, List.setIfInBounds_toArray, List.set_cons_zero, List.set_cons_succ]
    refine ord_nil ?_
    have hm6 := hm5.dropSl.dropSl.dropSl
    clear hm5
    go_simp
    go_wp2_with fail
    go_loopw [4] (fun v wr => ∃ i : Nat, i ≤ b.length ∧ v = .int .i64 i ∧ Own w wr [] [(.slice a1 b.length c1, 5, vs .u8 (forth b))]) (fun v _ => b.length - (intOf v).toNat)
    case atStart => exact ⟨0, by omega, rfl, hm6⟩
    case round =>
      obtain ⟨i, hi, rfl, hmr⟩ := hrel
      clear hm6
      by_cases hlt : i < b.length
      · obtain ⟨A, rfl, hA0⟩ := HC.out i hlt
        have hlf : i < (forth b).length := by rw [len_forth]; exact hlt
        obtain ⟨A1, rfl⟩ : ∃ A1, a1 = some A1 := by
          rcases (Src.of_owned (hmr.get 0 rfl) : Src wr (.slice a1 b.length c1) (vs .u8 (forth b))) with ⟨h, h0⟩ | ⟨A1, c, h, _⟩
          · have := congrArg List.length h0
            rw [length_vs, len_forth] at this
            simp only [List.length_nil] at this
            omega
          · injection h with h1
            exact ⟨A1, h1⟩
        have hforth := get_vs .u8 (forth b) i hlf
        have hzero := forth_zero HB.out i hlt
        have HH := Lib.hid hforth
        clear hforth
        have hforth : Hid ((vs .u8 (forth b))[i]? = some (.int .u8 (gi (forth b) i))) := HH
        clear HH
        generalize gi (forth b) i = f at *
        by_cases h0 : i = 0
        · subst h0
          have hl0 : last b 0 = 0 := rfl
          rw [hl0] at hzero
          have hpred : 0 < b.length := hlt
          have hAp := hA0
          generalize hx : gi b 0 = x at *
          by_cases hz : x = 0
          · have e1 : (f == 0) = true := by simpa using hzero.2 hz
            have e2 : (x == 0) = true := by simpa using hz
            clear hzero hz
            go_wp2_with (first
              | (refine wpList_run rfl (exec_indexAddr_sl rfl HE.out rfl rfl rfl hpred) ?_)
              | (refine wpList_run rfl (exec_loadaddr rfl rfl one5 hAp) ?_))
            refine wp_region_ord [(0, true), (1, true), (2, true), (3, true), (4, true), (5, true), (6, true), (7, true), (8, true), (9, true), (10, true), (11, true)] (fun W => Below w.heap.size w W ∧ Src W (.slice (some A1) b.length c1) (vs .u8 (forth b))) rfl (by kernel_rfl) rfl (by kernel_rfl) (fun _ _ d _ _ h => by cases d <;> exact h) ⟨(hmr.drawn (wr.drawn + 1)).below, Src.of_owned ((hmr.drawn (wr.drawn + 1)).get 0 rfl)⟩ ?_
            have hm8 := hmr.drawn (wr.drawn + 1)
            generalize ({ wr with drawn := wr.drawn + 1 } : World) = w8 at hm8 ⊢
            refine ord_read_l rfl rfl (fun W hW => by go_simp; rfl) ?_
            simp only [Act.put, List.setIfInBounds_toArray, List.set_cons_zero, List.set_cons_succ]
            refine ord_read_l rfl rfl (fun W hW => by go_simp; rfl) ?_
            simp only [Act.put, List.setIfInBounds_toArray, List.set_cons_zero, List.set_cons_succ]
            refine ord_read_l rfl rfl (fun W hW => exec_indexAddr_sl rfl HE.out rfl rfl rfl hlt) ?_
            simp only [Act.put, List.setIfInBounds_toArray, List.set_cons_zero, List.set_cons_succ]
            refine ord_read_l rfl rfl (fun W hW => exec_loadaddr rfl rfl one5 (hW.2.at hforth.out)) ?_
            simp only [Act.put, List.setIfInBounds_toArray, List.set_cons_zero, List.set_cons_succ]
            refine ord_read_l rfl rfl (fun W hW => by go_simp; rfl) ?_
            simp only [Act.put, List.setIfInBounds_toArray, List.set_cons_zero, List.set_cons_succ]
            refine ord_read_l rfl rfl (fun W hW => by go_simp; rfl) ?_
            simp only [Act.put, List.setIfInBounds_toArray, List.set_cons_zero, List.set_cons_succ]
            refine ord_read_l rfl rfl (fun W hW => by go_simp; rfl) ?_
            simp only [Act.put, List.setIfInBounds_toArray, List.set_cons_zero, List.set_cons_succ]
            refine ord_read_l rfl rfl (fun W hW => exec_indexAddr_sl rfl HE.out rfl rfl rfl hlt) ?_
            simp only [Act.put, List.setIfInBounds_toArray, List.set_cons_zero, List.set_cons_succ]
            refine ord_read_l rfl rfl (fun W hW => exec_loadaddr rfl rfl one5 ((hW.1.cell (block_lt_of_cell hA0)).trans hA0)) ?_
            simp only [Act.put, List.setIfInBounds_toArray, List.set_cons_zero, List.set_cons_succ]
            refine ord_read_l rfl rfl (fun W hW => by go_simp; rfl) ?_
            simp only [Act.put, List.setIfInBounds_toArray, List.set_cons_zero, List.set_cons_succ]
            refine ord_read_l rfl rfl (fun W hW => by go_simp; rfl) ?_
            simp only [Act.put, List.setIfInBounds_toArray, List.set_cons_zero, List.set_cons_succ]
            refine ord_read_l rfl rfl (fun W hW => by go_simp; rfl) ?_
            simp only [Act.put, List.setIfInBounds_toArray, List.set_cons_zero, List.set_cons_succ]
            refine ord_nil ?_
            go_simp
            go_wp2
            go_roundw
            case rel => exact ⟨0 + 1, by omega, by go_num, hm8⟩
            case measure => simp [intOf]; omega
          · have e1 : (f == 0) = false := by simpa using fun h => hz (hzero.1 h)
            have e2 : (x == 0) = false := by simpa using hz
            clear hzero hz
            go_wp2_with (first
              | (refine wpList_run rfl (exec_indexAddr_sl rfl HE.out rfl rfl rfl hpred) ?_)
              | (refine wpList_run rfl (exec_loadaddr rfl rfl one5 hAp) ?_))
            refine wp_region_ord [(0, true), (1, true), (2, true), (3, true), (4, true), (5, true), (6, true), (7, true), (8, true), (9, true), (10, true), (11, true)] (fun W => Below w.heap.size w W ∧ Src W (.slice (some A1) b.length c1) (vs .u8 (forth b))) rfl (by kernel_rfl) rfl (by kernel_rfl) (fun _ _ d _ _ h => by cases d <;> exact h) ⟨(hmr.drawn (wr.drawn + 1)).below, Src.of_owned ((hmr.drawn (wr.drawn + 1)).get 0 rfl)⟩ ?_
            have hm8 := hmr.drawn (wr.drawn + 1)
            generalize ({ wr with drawn := wr.drawn + 1 } : World) = w8 at hm8 ⊢
            refine ord_read_l rfl rfl (fun W hW => by go_simp; rfl) ?_
            simp only [Act.put, List.setIfInBounds_toArray, List.set_cons_zero, List.set_cons_succ]
            refine ord_read_l rfl rfl (fun W hW => by go_simp; rfl) ?_
            simp only [Act.put, List.setIfInBounds_toArray, List.set_cons_zero, List.set_cons_succ]
            refine ord_read_l rfl rfl (fun W hW => exec_indexAddr_sl rfl HE.out rfl rfl rfl hlt) ?_
            simp only [Act.put, List.setIfInBounds_toArray, List.set_cons_zero, List.set_cons_succ]
            refine ord_read_l rfl rfl (fun W hW => exec_loadaddr rfl rfl one5 (hW.2.at hforth.out)) ?_
            simp only [Act.put, List.setIfInBounds_toArray, List.set_cons_zero, List.set_cons_succ]
            refine ord_read_l rfl rfl (fun W hW => by go_simp; rfl) ?_
            simp only [Act.put, List.setIfInBounds_toArray, List.set_cons_zero, List.set_cons_succ]
            refine ord_read_l rfl rfl (fun W hW => by go_simp; rfl) ?_
            simp only [Act.put, List.setIfInBounds_toArray, List.set_cons_zero, List.set_cons_succ]
            refine ord_read_l rfl rfl (fun W hW => by go_simp; rfl) ?_
            simp only [Act.put, List.setIfInBounds_toArray, List.set_cons_zero, List.set_cons_succ]
            refine ord_read_l rfl rfl (fun W hW => exec_indexAddr_sl rfl HE.out rfl rfl rfl hlt) ?_
            simp only [Act.put, List.setIfInBounds_toArray, List.set_cons_zero, List.set_cons_succ]
            refine ord_read_l rfl rfl (fun W hW => exec_loadaddr rfl rfl one5 ((hW.1.cell (block_lt_of_cell hA0)).trans hA0)) ?_
            simp only [Act.put, List.setIfInBounds_toArray, List.set_cons_zero, List.set_cons_succ]
            refine ord_read_l rfl rfl (fun W hW => by go_simp; rfl) ?_
            simp only [Act.put, List.setIfInBounds_toArray, List.set_cons_zero, List.set_cons_succ]
            refine ord_read_l rfl rfl (fun W hW => by go_simp; rfl) ?_
            simp only [Act.put, List.setIfInBounds_toArray, List.set_cons_zero, List.set_cons_succ]
            refine ord_read_l rfl rfl (fun W hW => by go_simp; rfl) ?_
            simp only [Act.put, List.setIfInBounds_toArray, List.set_cons_zero, List.set_cons_succ]
            refine ord_nil ?_
            go_simp
            go_wp2
            go_roundw
            case rel => exact ⟨0 + 1, by omega, by go_num, hm8⟩
            case measure => simp [intOf]; omega
        · have hl0 : last b i = gi b (i - 1) := by rw [last, if_neg h0]
          rw [hl0] at hzero
          have hpred : i - 1 < b.length := by omega
          have hAp : wr.cell? (A.add (i - 1)) = some (.int .u8 (gi b (i - 1))) := by
            obtain ⟨A', e, hA'⟩ := HC.out (i - 1) hpred
            cases e
            exact (hmr.below.cell (block_lt_of_cell hA')).trans hA'
          have b1 : (0 : Int) < i := by omega
          have b4 : IntKind.i64.wrap ((i : Int) - 1) = ((i - 1 : Nat) : Int) := by rw [IntWalk.i64_in _ (by omega)]; omega
          generalize gi b (i - 1) = y at *
          generalize hx : gi b i = x at *
          by_cases hz : x = y
          · have e1 : (f == 0) = true := by simpa using hzero.2 hz
            have e2 : (x == y) = true := by simpa using hz
            clear hzero hz
            go_wp2_with (first
              | (refine wpList_run rfl (exec_indexAddr_sl rfl HE.out rfl rfl rfl hpred) ?_)
              | (refine wpList_run rfl (exec_loadaddr rfl rfl one5 hAp) ?_))
            refine wp_region_ord [(0, true), (1, true), (2, true), (3, true), (4, true), (5, true), (6, true), (7, true), (8, true), (9, true), (10, true), (11, true)] (fun W => Below w.heap.size w W ∧ Src W (.slice (some A1) b.length c1) (vs .u8 (forth b))) rfl (by kernel_rfl) rfl (by kernel_rfl) (fun _ _ d _ _ h => by cases d <;> exact h) ⟨(hmr.drawn (wr.drawn + 1)).below, Src.of_owned ((hmr.drawn (wr.drawn + 1)).get 0 rfl)⟩ ?_
            have hm8 := hmr.drawn (wr.drawn + 1)
            generalize ({ wr with drawn := wr.drawn + 1 } : World) = w8 at hm8 ⊢
            refine ord_read_l rfl rfl (fun W hW => by go_simp; rfl) ?_
            simp only [Act.put, List.setIfInBounds_toArray, List.set_cons_zero, List.set_cons_succ]
            refine ord_read_l rfl rfl (fun W hW => by go_simp; rfl) ?_
            simp only [Act.put, List.setIfInBounds_toArray, List.set_cons_zero, List.set_cons_succ]
            refine ord_read_l rfl rfl (fun W hW => exec_indexAddr_sl rfl HE.out rfl rfl rfl hlt) ?_
            simp only [Act.put, List.setIfInBounds_toArray, List.set_cons_zero, List.set_cons_succ]
            refine ord_read_l rfl rfl (fun W hW => exec_loadaddr rfl rfl one5 (hW.2.at hforth.out)) ?_
            simp only [Act.put, List.setIfInBounds_toArray, List.set_cons_zero, List.set_cons_succ]
            refine ord_read_l rfl rfl (fun W hW => by go_simp; rfl) ?_
            simp only [Act.put, List.setIfInBounds_toArray, List.set_cons_zero, List.set_cons_succ]
            refine ord_read_l rfl rfl (fun W hW => by go_simp; rfl) ?_
            simp only [Act.put, List.setIfInBounds_toArray, List.set_cons_zero, List.set_cons_succ]
            refine ord_read_l rfl rfl (fun W hW => by go_simp; rfl) ?_
            simp only [Act.put, List.setIfInBounds_toArray, List.set_cons_zero, List.set_cons_succ]
            refine ord_read_l rfl rfl (fun W hW => exec_indexAddr_sl rfl HE.out rfl rfl rfl hlt) ?_
            simp only [Act.put, List.setIfInBounds_toArray, List.set_cons_zero, List.set_cons_succ]
            refine ord_read_l rfl rfl (fun W hW => exec_loadaddr rfl rfl one5 ((hW.1.cell (block_lt_of_cell hA0)).trans hA0)) ?_
            simp only [Act.put, List.setIfInBounds_toArray, List.set_cons_zero, List.set_cons_succ]
            refine ord_read_l rfl rfl (fun W hW => by go_simp; rfl) ?_
            simp only [Act.put, List.setIfInBounds_toArray, List.set_cons_zero, List.set_cons_succ]
            refine ord_read_l rfl rfl (fun W hW => by go_simp; rfl) ?_
            simp only [Act.put, List.setIfInBounds_toArray, List.set_cons_zero, List.set_cons_succ]
            refine ord_read_l rfl rfl (fun W hW => by go_simp; rfl) ?_
            simp only [Act.put, List.setIfInBounds_toArray, List.set_cons_zero, List.set_cons_succ]
            refine ord_nil ?_
            go_simp
            go_wp2
            go_roundw
            case rel => exact ⟨i + 1, by omega, by go_num, hm8⟩
            case measure => simp [intOf]; omega
          · have e1 : (f == 0) = false := by simpa using fun h => hz (hzero.1 h)
            have e2 : (x == y) = false := by simpa using hz
            clear hzero hz
            go_wp2_with (first
              | (refine wpList_run rfl (exec_indexAddr_sl rfl HE.out rfl rfl rfl hpred) ?_)
              | (refine wpList_run rfl (exec_loadaddr rfl rfl one5 hAp) ?_))
            refine wp_region_ord [(0, true), (1, true), (2, true), (3, true), (4, true), (5, true), (6, true), (7, true), (8, true), (9, true), (10, true), (11, true)] (fun W => Below w.heap.size w W ∧ Src W (.slice (some A1) b.length c1) (vs .u8 (forth b))) rfl (by kernel_rfl) rfl (by kernel_rfl) (fun _ _ d _ _ h => by cases d <;> exact h) ⟨(hmr.drawn (wr.drawn + 1)).below, Src.of_owned ((hmr.drawn (wr.drawn + 1)).get 0 rfl)⟩ ?_
            have hm8 := hmr.drawn (wr.drawn + 1)
            generalize ({ wr with drawn := wr.drawn + 1 } : World) = w8 at hm8 ⊢
            refine ord_read_l rfl rfl (fun W hW => by go_simp; rfl) ?_
            simp only [Act.put, List.setIfInBounds_toArray, List.set_cons_zero, List.set_cons_succ]
            refine ord_read_l rfl rfl (fun W hW => by go_simp; rfl) ?_
            simp only [Act.put, List.setIfInBounds_toArray, List.set_cons_zero, List.set_cons_succ]
            refine ord_read_l rfl rfl (fun W hW => exec_indexAddr_sl rfl HE.out rfl rfl rfl hlt) ?_
            simp only [Act.put, List.setIfInBounds_toArray, List.set_cons_zero, List.set_cons_succ]
            refine ord_read_l rfl rfl (fun W hW => exec_loadaddr rfl rfl one5 (hW.2.at hforth.out)) ?_
            simp only [Act.put, List.setIfInBounds_toArray, List.set_cons_zero, List.set_cons_succ]
            refine ord_read_l rfl rfl (fun W hW => by go_simp; rfl) ?_
            simp only [Act.put, List.setIfInBounds_toArray, List.set_cons_zero, List.set_cons_succ]
            refine ord_read_l rfl rfl (fun W hW => by go_simp; rfl) ?_
            simp only [Act.put, List.setIfInBounds_toArray, List.set_cons_zero, List.set_cons_succ]
            refine ord_read_l rfl rfl (fun W hW => by go_simp; rfl) ?_
            simp only [Act.put, List.setIfInBounds_toArray, List.set_cons_zero, List.set_cons_succ]
            refine ord_read_l rfl rfl (fun W hW => exec_indexAddr_sl rfl HE.out rfl rfl rfl hlt) ?_
            simp only [Act.put, List.setIfInBounds_toArray, List.set_cons_zero, List.set_cons_succ]
            refine ord_read_l rfl rfl (fun W hW => exec_loadaddr rfl rfl one5 ((hW.1.cell (block_lt_of_cell hA0)).trans hA0)) ?_
            simp only [Act.put, List.setIfInBounds_toArray, List.set_cons_zero, List.set_cons_succ]
            refine ord_read_l rfl rfl (fun W hW => by go_simp; rfl) ?_
            simp only [Act.put, List.setIfInBounds_toArray, List.set_cons_zero, List.set_cons_succ]
            refine ord_read_l rfl rfl (fun W hW => by go_simp; rfl) ?_
            simp only [Act.put, List.setIfInBounds_toArray, List.set_cons_zero, List.set_cons_succ]
            refine ord_read_l rfl rfl (fun W hW => by go_simp; rfl) ?_
            simp only [Act.put, List.setIfInBounds_toArray, List.set_cons_zero, List.set_cons_succ]
            refine ord_nil ?_
            go_simp
            go_wp2
            go_roundw
            case rel => exact ⟨i + 1, by omega, by go_num, hm8⟩
            case measure => simp [intOf]; omega
      · obtain rfl : i = b.length := by omega
        go_wp2_with (first
          | (go_at_call 20; refine (wakes13 _).mono ?_; rintro e w10 ⟨rfl, hb10⟩; have hm10 := hmr.call hb10; clear hmr))
        go_ret
        exact ⟨rfl, hm10.below⟩
  · obtain ⟨ad, cp, rfl, hc⟩ := hv
    have hn1 : (400 : Int) < b.length := by omega
    have hn2 : decide ((400 : Int) < b.length) = true := decide_eq_true hn1
    clear hc hb hn
    go_enter Try.func4, Try.ntmps4
    have hm := Own.nil w
    go_wp2_with (first
      | (go_at_call 20; refine (wakes13 _).mono ?_; rintro e w1 ⟨rfl, hb1⟩; have hm1 := hm.call hb1; clear hm))
    go_ret
    exact ⟨rfl, hm1.below⟩
end Go.Proofs.Ytaccjnekonmkoaa
