/-
  The walk of winepresslaw13.MtfPlaces.
-/
import Derived.Test.YtaccjnekonmkoaaMtfBk
import Derived.Test.YtaccjnekonmkoaaPlainD
namespace Go.Proofs.Ytaccjnekonmkoaa
open Go Go.RowKit

theorem zero37 (w : World) : (zeroValue 37).run Try.prog w = .ok (.agg (S [])) w := by kernel_rfl
theorem one4 : OneTy Try.prog 4 := ⟨fun w => by kernel_rfl, by kernel_rfl⟩
theorem ord_pass_l {P : Program} {ops : Array Oper} {Q : Exit → Act → World → Prop} {i : Nat} {r : List (Nat × Bool)} {S : World → Prop} {a : Act} {w : World} {o : Oper} (ho : ops.toList[i]? = some o) (hw : Region.wanted o (yielded ops a.tmps) = false) (h : wpOrd P ops Q r S (a.put o.dst undef) w) : wpOrd P ops Q ((i, true) :: r) S a w :=
  ord_pass (by rw [← Array.getElem?_toList]; exact ho) hw h

set_option maxRecDepth 100000 in
set_option maxHeartbeats 8000000 in
theorem places13 (v : Value) (b : List Int) (w : World) (hv : In .u8 w v b) (hb : Bytes b) : Calls Try.prog 6 #[v] w fun e w' => e = .returned (.bool true) ∧ Below w.heap.size w w' := by
  by_cases hn : b.length ≤ 200
  · obtain ⟨ad, cp, rfl, hc⟩ := hv
    obtain ⟨i5, hE⟩ := el24
    have HV : Hid (In .u8 w (.slice ad b.length cp) b) := ⟨ad, cp, rfl, hc⟩
    have HC := Lib.hid hc
    have HE := Lib.hid hE
    have HB := Lib.hid hb
    have hn1 : ¬ (200 : Int) < b.length := by omega
    have hn2 : decide ((200 : Int) < b.length) = false := decide_eq_false hn1
    clear hc hE hb
    go_enter Try.func6, Try.ntmps6
    have hm := Own.nil w
    go_wp2_with (first
      | (go_at_call 29; refine (forth_any _ b _ HV.out HB.out (by omega)).mono ?_; rintro e w1 ⟨⟨r1, rfl, ho1⟩, hb1⟩; obtain ⟨a1, c1, rfl⟩ := owns_shape ho1; have hm1 := hm.callSl hb1 (owns_len ho1 (len_forth _)); clear hm))
    go_loopw [4] (fun v wr => ∃ i : Nat, i ≤ b.length ∧ v = .int .i64 i ∧ Own w wr [] [(.slice a1 b.length c1, 5, vs .u8 (forth b))]) (fun v _ => b.length - (intOf v).toNat)
    case atStart => exact ⟨0, by omega, rfl, hm1⟩
    case round =>
      obtain ⟨i, hi, rfl, hmr⟩ := hrel
      clear hm1
      by_cases hlt : i < b.length
      · obtain ⟨A, rfl, hA0⟩ := HC.out i hlt
        have hlf : i < (forth b).length := by rw [len_forth]; exact hlt
        obtain ⟨A1, rfl⟩ : ∃ A1, a1 = some A1 := by
          rcases (Src.of_owned (hmr.get 0 rfl) : Src wr (.slice a1 b.length c1) (vs .u8 (forth b))) with ⟨h, h0⟩ | ⟨A1, c, h, _⟩
          · have := congrArg List.length h0
            rw [length_vs, len_forth] at this
            simp only [List.length_nil] at this
            omega
          · injection h with h1
            exact ⟨A1, h1⟩
        have hbx := HB.out.gi i hlt
        have FL : Hid (∀ m : Nat, m < i → gi b m = gi b i → gi b i ∉ (b.take i).drop (m + 1) → (vs .u8 (forth b))[i]? = some (.int .u8 (nd ((b.take i).drop (m + 1))))) := fun m hm he hn => by
          rw [get_vs .u8 (forth b) i hlf, forth_last HB.out i hlt m hm he hn]
        have FN : Hid (gi b i ∉ b.take i → (vs .u8 (forth b))[i]? = some (.int .u8 (gi b i + ng (b.take i) (gi b i)))) := fun hn => by
          rw [get_vs .u8 (forth b) i hlf, forth_never HB.out i hlt hn]
        have hD0 : (b.take i).drop i = [] := List.drop_eq_nil_of_le (by rw [List.length_take]; omega)
        have HD := Lib.hid hD0
        have b4 : IntKind.i64.wrap ((i : Int) - 1) = (i : Int) - 1 := IntWalk.i64_in _ (by omega)
        obtain ⟨x, hx⟩ := Int.eq_ofNat_of_zero_le hbx.1
        have HX := Lib.hid hx
        have hbx2 : x < 256 := by omega
        have hAi := hA0
        rw [hx] at hAi FL FN
        clear hx hbx hD0 hA0
        go_wp2_with (first
          | (refine wpList_alloc_o hmr rfl rfl zero37 ?_; intro w2 g hm2; clear hmr))
        go_loopw [6, 7] (fun vn vk wi => ∃ m : Nat, m ≤ i ∧ vn = .int .i64 (nd ((b.take i).drop m)) ∧ vk = .int .i64 ((m : Int) - 1) ∧ (x : Int) ∉ (b.take i).drop m ∧ Own w wi [(g, S ((b.take i).drop m))] [(.slice (some A1) b.length c1, 5, vs .u8 (forth b))]) (fun _ vk _ => (intOf vk + 1).toNat)
        case atStart => exact ⟨i, by omega, by rw [HD.out, nd_nil]; rfl, by go_num, by rw [HD.out]; exact List.not_mem_nil, by rw [HD.out]; exact hm2⟩
        case round =>
          obtain ⟨m, hmi, rfl, rfl, hxd, hmi2⟩ := hrel
          clear hm2
          have hXD := Lib.hid hxd
          clear hxd
          have hnl := nd_le ((b.take i).drop m)
          by_cases hm0 : 0 < m
          · have hpm : m - 1 < b.length := by omega
            have hstep := Lib.hid (drop_step (b := b) (i := i) hi hm0 hmi)
            have HFL := FL.out (m - 1) (by omega)
            rw [show m - 1 + 1 = m by omega] at HFL
            have hk2 : IntKind.i64.wrap ((m : Int) - 1 - 1) = (m : Int) - 1 - 1 := IntWalk.i64_in _ (by omega)
            have hk3 : (m : Int) - 1 - 1 = ((m - 1 : Nat) : Int) - 1 := by omega
            have hg := HB.out.gi (m - 1) hpm
            have hAm : w.cell? (A.add (m - 1)) = some (.int .u8 (gi b (m - 1))) := by
              obtain ⟨A', e, hA'⟩ := HC.out (m - 1) hpm
              cases e
              exact hA'
            obtain ⟨y, hy⟩ := Int.eq_ofNat_of_zero_le hg.1
            rw [hy] at hAm HFL
            have hstep2 : Hid ((b.take i).drop (m - 1) = (y : Int) :: (b.take i).drop m) := by have := hstep.out; rw [hy] at this; exact this
            have hy2 : y < 256 := by omega
            clear hstep hy hg
            have HK : Hid ((m : Int) - 1 = ((m - 1 : Nat) : Int)) := by show _ = _; omega
            have HFL2 := Lib.hid HFL
            clear HFL
            have HM := Lib.hid hm0
            generalize hd : (b.take i).drop m = d at *
            have hd1 := Lib.hid hd
            clear hd
            have hK0 : 0 ≤ (m : Int) - 1 := by omega
            have hK1 : decide (0 ≤ (m : Int) - 1) = true := decide_eq_true hK0
            have hK2 : ¬ (m : Int) - 1 < 0 := by omega
            have hK3 : decide ((m : Int) - 1 < 0) = false := decide_eq_false hK2
            generalize hKK : (m : Int) - 1 = K at *
            generalize hN : nd d = n at *
            have HN := Lib.hid hN
            clear hN
            by_cases hxy : y = x
            · subst hxy
              have hforth : Hid ((vs .u8 (forth b))[i]? = some (.int .u8 n)) := HFL2.out rfl hXD.out
              have hw1 : IntKind.i64.wrap (n : Int) = n := IntWalk.i64_in _ (by omega)
              go_wp2_with fail
              refine wp_region_ord [(0, true), (1, true), (2, true), (3, true), (4, true), (5, true), (6, true), (7, true), (8, true), (9, true), (10, true), (11, true), (12, true)] (fun W => Below w.heap.size w W) rfl (by kernel_rfl) rfl (by kernel_rfl) (fun _ _ d _ _ h => by cases d <;> exact h) (hmi2.drawn (wr.drawn + 1)).below ?_
              have hm3 := hmi2.drawn (wr.drawn + 1)
              generalize ({ wr with drawn := wr.drawn + 1 } : World) = wj at hm3 ⊢
              refine ord_read_l rfl rfl (fun W hW => by go_simp; rfl) ?_
              simp only [Act.put, List.setIfInBounds_toArray, List.set_cons_zero, List.set_cons_succ]
              refine ord_read_l rfl rfl (fun W hW => by go_simp; rfl) ?_
              simp only [Act.put, List.setIfInBounds_toArray, List.set_cons_zero, List.set_cons_succ]
              refine ord_read_l rfl rfl (fun W hW => by go_simp; rfl) ?_
              simp only [Act.put, List.setIfInBounds_toArray, List.set_cons_zero, List.set_cons_succ]
              refine ord_read_l rfl rfl (fun W hW => by go_simp; rfl) ?_
              simp only [Act.put, List.setIfInBounds_toArray, List.set_cons_zero, List.set_cons_succ]
              refine ord_read_l rfl rfl (fun W hW => by go_simp; rfl) ?_
              simp only [Act.put, List.setIfInBounds_toArray, List.set_cons_zero, List.set_cons_succ]
              refine ord_read_l rfl rfl (fun W hW => exec_indexAddr_sl rfl HE.out rfl rfl HK.out hpm) ?_
              simp only [Act.put, List.setIfInBounds_toArray, List.set_cons_zero, List.set_cons_succ]
              refine ord_read_l rfl rfl (fun W hW => exec_loadaddr rfl rfl one5 ((hW.cell (block_lt_of_cell hAm)).trans hAm)) ?_
              simp only [Act.put, List.setIfInBounds_toArray, List.set_cons_zero, List.set_cons_succ]
              refine ord_read_l rfl rfl (fun W hW => by go_simp; rfl) ?_
              simp only [Act.put, List.setIfInBounds_toArray, List.set_cons_zero, List.set_cons_succ]
              refine ord_read_l rfl rfl (fun W hW => by go_simp; rfl) ?_
              simp only [Act.put, List.setIfInBounds_toArray, List.set_cons_zero, List.set_cons_succ]
              refine ord_read_l rfl rfl (fun W hW => exec_indexAddr_sl rfl HE.out rfl rfl rfl hlt) ?_
              simp only [Act.put, List.setIfInBounds_toArray, List.set_cons_zero, List.set_cons_succ]
              refine ord_read_l rfl rfl (fun W hW => exec_loadaddr rfl rfl one5 ((hW.cell (block_lt_of_cell hAi)).trans hAi)) ?_
              simp only [Act.put, List.setIfInBounds_toArray, List.set_cons_zero, List.set_cons_succ]
              refine ord_read_l rfl rfl (fun W hW => by go_simp; rfl) ?_
              simp only [Act.put, List.setIfInBounds_toArray, List.set_cons_zero, List.set_cons_succ]
              refine ord_read_l rfl rfl (fun W hW => by go_simp; rfl) ?_
              simp only [Act.put, List.setIfInBounds_toArray, List.set_cons_zero, List.set_cons_succ]
              refine ord_nil ?_
              go_simp
              go_wp2_with (first
                | (refine wpList_run rfl (exec_indexAddr_sl rfl HE.out rfl rfl rfl hlt) ?_)
                | (refine wpList_run rfl (exec_loadaddr rfl rfl one5 ((Src.of_owned (hm3.get 0 rfl)).at hforth.out)) ?_))
              go_roundw
              case rel => exact ⟨i + 1, by omega, by go_num, hm3.dropRow⟩
              case measure => simp [intOf]; omega
            · have hxy2 : ((y : Int) == (x : Int)) = false := by simpa [Int.natCast_inj] using hxy
              have hxy3 : decide ((y : Int) = (x : Int)) = false := decide_eq_false (by omega)
              have hnot : (x : Int) ∉ (y : Int) :: d := fun h => by
                rcases List.mem_cons.1 h with h | h
                · exact hxy (Int.natCast_inj.1 h.symm)
                · exact hXD.out h
              have HNOT := Lib.hid hnot
              clear hnot
              have c0 : y < (S d).size := by rw [size_S]; exact hy2
              have hw1 : IntKind.i64.wrap ((n : Int) + 1) = (n : Int) + 1 := IntWalk.i64_in _ (by omega)
              have hgs := get_S d y hy2
              by_cases hsee : d.contains (y : Int) = true
              · rw [hsee] at hgs
                have HSN := Lib.hid (S_same d y hsee)
                have HNN : Hid (nd ((y : Int) :: d) = n) := by show _ = _; rw [nd_cons d (by omega) (by omega), HN.out, hsee]; rfl
                have HGS := Lib.hid hgs
                clear hgs hsee
                go_wp2_with fail
                refine wp_region_ord [(0, true), (1, true), (2, true), (3, true), (4, true), (5, true), (6, true), (7, true), (8, true), (9, true), (10, true), (11, true), (12, true)] (fun W => Below w.heap.size w W) rfl (by kernel_rfl) rfl (by kernel_rfl) (fun _ _ d _ _ h => by cases d <;> exact h) (hmi2.drawn (wr.drawn + 1)).below ?_
                have hm3 := hmi2.drawn (wr.drawn + 1)
                generalize ({ wr with drawn := wr.drawn + 1 } : World) = wj at hm3 ⊢
                refine ord_read_l rfl rfl (fun W hW => by go_simp; rfl) ?_
                simp only [Act.put, List.setIfInBounds_toArray, List.set_cons_zero, List.set_cons_succ]
                refine ord_read_l rfl rfl (fun W hW => by go_simp; rfl) ?_
                simp only [Act.put, List.setIfInBounds_toArray, List.set_cons_zero, List.set_cons_succ]
                refine ord_read_l rfl rfl (fun W hW => by go_simp; rfl) ?_
                simp only [Act.put, List.setIfInBounds_toArray, List.set_cons_zero, List.set_cons_succ]
                refine ord_read_l rfl rfl (fun W hW => by go_simp; rfl) ?_
                simp only [Act.put, List.setIfInBounds_toArray, List.set_cons_zero, List.set_cons_succ]
                refine ord_read_l rfl rfl (fun W hW => by go_simp; rfl) ?_
                simp only [Act.put, List.setIfInBounds_toArray, List.set_cons_zero, List.set_cons_succ]
                refine ord_read_l rfl rfl (fun W hW => exec_indexAddr_sl rfl HE.out rfl rfl HK.out hpm) ?_
                simp only [Act.put, List.setIfInBounds_toArray, List.set_cons_zero, List.set_cons_succ]
                refine ord_read_l rfl rfl (fun W hW => exec_loadaddr rfl rfl one5 ((hW.cell (block_lt_of_cell hAm)).trans hAm)) ?_
                simp only [Act.put, List.setIfInBounds_toArray, List.set_cons_zero, List.set_cons_succ]
                refine ord_read_l rfl rfl (fun W hW => by go_simp; rfl) ?_
                simp only [Act.put, List.setIfInBounds_toArray, List.set_cons_zero, List.set_cons_succ]
                refine ord_read_l rfl rfl (fun W hW => by go_simp; rfl) ?_
                simp only [Act.put, List.setIfInBounds_toArray, List.set_cons_zero, List.set_cons_succ]
                refine ord_read_l rfl rfl (fun W hW => exec_indexAddr_sl rfl HE.out rfl rfl rfl hlt) ?_
                simp only [Act.put, List.setIfInBounds_toArray, List.set_cons_zero, List.set_cons_succ]
                refine ord_read_l rfl rfl (fun W hW => exec_loadaddr rfl rfl one5 ((hW.cell (block_lt_of_cell hAi)).trans hAi)) ?_
                simp only [Act.put, List.setIfInBounds_toArray, List.set_cons_zero, List.set_cons_succ]
                refine ord_read_l rfl rfl (fun W hW => by go_simp; rfl) ?_
                simp only [Act.put, List.setIfInBounds_toArray, List.set_cons_zero, List.set_cons_succ]
                refine ord_read_l rfl rfl (fun W hW => by go_simp; rfl) ?_
                simp only [Act.put, List.setIfInBounds_toArray, List.set_cons_zero, List.set_cons_succ]
                refine ord_nil ?_
                go_simp
                go_wp2_with (first
                  | (refine wpList_run rfl (exec_indexAddr_sl rfl HE.out rfl rfl HK.out hpm) ?_)
                  | (refine wpList_run rfl (exec_loadaddr rfl rfl one5 ((hm3.below.cell (block_lt_of_cell hAm)).trans hAm)) ?_)
                  | (refine wpList_run rfl (exec_loadcell' rfl rfl (hm3.row 0 rfl) one4 HGS.out) ?_))
                go_roundw
                case rel => exact ⟨m - 1, by omega, by rw [hstep2.out, HNN.out], by go_num <;> omega, by rw [hstep2.out]; exact HNOT.out, by rw [hstep2.out, HSN.out]; exact hm3⟩
                case measure => simp [intOf]; omega
              · have hsee' : d.contains (y : Int) = false := by simpa using hsee
                rw [hsee'] at hgs
                have HNN : Hid (nd ((y : Int) :: d) = n + 1) := by show _ = _; rw [nd_cons d (by omega) (by omega), HN.out, hsee']; rfl
                have HGS := Lib.hid hgs
                clear hgs hsee hsee'
                go_wp2_with fail
                refine wp_region_ord [(0, true), (1, true), (2, true), (3, true), (4, true), (5, true), (6, true), (7, true), (8, true), (9, true), (10, true), (11, true), (12, true)] (fun W => Below w.heap.size w W) rfl (by kernel_rfl) rfl (by kernel_rfl) (fun _ _ d _ _ h => by cases d <;> exact h) (hmi2.drawn (wr.drawn + 1)).below ?_
                have hm3 := hmi2.drawn (wr.drawn + 1)
                generalize ({ wr with drawn := wr.drawn + 1 } : World) = wj at hm3 ⊢
                refine ord_read_l rfl rfl (fun W hW => by go_simp; rfl) ?_
                simp only [Act.put, List.setIfInBounds_toArray, List.set_cons_zero, List.set_cons_succ]
                refine ord_read_l rfl rfl (fun W hW => by go_simp; rfl) ?_
                simp only [Act.put, List.setIfInBounds_toArray, List.set_cons_zero, List.set_cons_succ]
                refine ord_read_l rfl rfl (fun W hW => by go_simp; rfl) ?_
                simp only [Act.put, List.setIfInBounds_toArray, List.set_cons_zero, List.set_cons_succ]
                refine ord_read_l rfl rfl (fun W hW => by go_simp; rfl) ?_
                simp only [Act.put, List.setIfInBounds_toArray, List.set_cons_zero, List.set_cons_succ]
                refine ord_read_l rfl rfl (fun W hW => by go_simp; rfl) ?_
                simp only [Act.put, List.setIfInBounds_toArray, List.set_cons_zero, List.set_cons_succ]
                refine ord_read_l rfl rfl (fun W hW => exec_indexAddr_sl rfl HE.out rfl rfl HK.out hpm) ?_
                simp only [Act.put, List.setIfInBounds_toArray, List.set_cons_zero, List.set_cons_succ]
                refine ord_read_l rfl rfl (fun W hW => exec_loadaddr rfl rfl one5 ((hW.cell (block_lt_of_cell hAm)).trans hAm)) ?_
                simp only [Act.put, List.setIfInBounds_toArray, List.set_cons_zero, List.set_cons_succ]
                refine ord_read_l rfl rfl (fun W hW => by go_simp; rfl) ?_
                simp only [Act.put, List.setIfInBounds_toArray, List.set_cons_zero, List.set_cons_succ]
                refine ord_read_l rfl rfl (fun W hW => by go_simp; rfl) ?_
                simp only [Act.put, List.setIfInBounds_toArray, List.set_cons_zero, List.set_cons_succ]
                refine ord_read_l rfl rfl (fun W hW => exec_indexAddr_sl rfl HE.out rfl rfl rfl hlt) ?_
                simp only [Act.put, List.setIfInBounds_toArray, List.set_cons_zero, List.set_cons_succ]
                refine ord_read_l rfl rfl (fun W hW => exec_loadaddr rfl rfl one5 ((hW.cell (block_lt_of_cell hAi)).trans hAi)) ?_
                simp only [Act.put, List.setIfInBounds_toArray, List.set_cons_zero, List.set_cons_succ]
                refine ord_read_l rfl rfl (fun W hW => by go_simp; rfl) ?_
                simp only [Act.put, List.setIfInBounds_toArray, List.set_cons_zero, List.set_cons_succ]
                refine ord_read_l rfl rfl (fun W hW => by go_simp; rfl) ?_
                simp only [Act.put, List.setIfInBounds_toArray, List.set_cons_zero, List.set_cons_succ]
                refine ord_nil ?_
                go_simp
                go_wp2_with (first
                  | (refine wpList_run rfl (exec_indexAddr_sl rfl HE.out rfl rfl HK.out hpm) ?_)
                  | (refine wpList_run rfl (exec_loadaddr rfl rfl one5 ((hm3.below.cell (block_lt_of_cell hAm)).trans hAm)) ?_)
                  | (refine wpList_run rfl (exec_loadcell' rfl rfl (hm3.row 0 rfl) one4 HGS.out) ?_)
                  | (refine wpList_run rfl (exec_loadaddr rfl rfl one5 ((hm4.below.cell (block_lt_of_cell hAm)).trans hAm)) ?_)
                  | (refine wpList_storecell_o 0 hm3 rfl rfl rfl rfl rfl one4 c0 rfl rfl (set_S d y) ?_; intro w4 hm4; simp only [List.set] at hm4))
                go_roundw
                case rel => exact ⟨m - 1, by omega, by rw [hstep2.out, HNN.out]; go_num, by go_num <;> omega, by rw [hstep2.out]; exact HNOT.out, by rw [hstep2.out]; exact hm4⟩
                case measure => simp [intOf]; omega
          · obtain rfl : m = 0 := by omega
            have hT : (b.take i).drop 0 = b.take i := List.drop_zero
            rw [hT] at hXD hmi2
            have hforth : Hid ((vs .u8 (forth b))[i]? = some (.int .u8 ((x : Int) + ng (b.take i) x))) := FN.out hXD.out
            generalize ht : b.take i = t at *
            have HT := Lib.hid ht
            clear ht
            have hw2 : IntKind.i64.wrap (x : Int) = x := IntWalk.i64_in _ (by omega)
            have hw3 : IntKind.i64.wrap ((x : Int) + 1) = (x : Int) + 1 := IntWalk.i64_in _ (by omega)
            go_wp2_with fail
            refine wp_region_ord [(0, true), (1, true), (2, true), (3, true), (4, true), (5, true), (6, true), (7, true), (8, true), (9, true), (10, true), (11, true), (12, true)] (fun W => Below w.heap.size w W) rfl (by kernel_rfl) rfl (by kernel_rfl) (fun _ _ d _ _ h => by cases d <;> exact h) (hmi2.drawn (wr.drawn + 1)).below ?_
            have hm3 := hmi2.drawn (wr.drawn + 1)
            generalize ({ wr with drawn := wr.drawn + 1 } : World) = wj at hm3 ⊢
            refine ord_read_l rfl rfl (fun W hW => by go_simp; rfl) ?_
            simp only [Act.put, List.setIfInBounds_toArray, List.set_cons_zero, List.set_cons_succ]
            refine ord_read_l rfl rfl (fun W hW => by go_simp; rfl) ?_
            simp only [Act.put, List.setIfInBounds_toArray, List.set_cons_zero, List.set_cons_succ]
            refine ord_read_l rfl rfl (fun W hW => by go_simp; rfl) ?_
            simp only [Act.put, List.setIfInBounds_toArray, List.set_cons_zero, List.set_cons_succ]
            refine ord_pass_l rfl rfl ?_
            simp only [Act.put, List.setIfInBounds_toArray, List.set_cons_zero, List.set_cons_succ]
            refine ord_pass_l rfl rfl ?_
            simp only [Act.put, List.setIfInBounds_toArray, List.set_cons_zero, List.set_cons_succ]
            refine ord_pass_l rfl rfl ?_
            simp only [Act.put, List.setIfInBounds_toArray, List.set_cons_zero, List.set_cons_succ]
            refine ord_pass_l rfl rfl ?_
            simp only [Act.put, List.setIfInBounds_toArray, List.set_cons_zero, List.set_cons_succ]
            refine ord_pass_l rfl rfl ?_
            simp only [Act.put, List.setIfInBounds_toArray, List.set_cons_zero, List.set_cons_succ]
            refine ord_pass_l rfl rfl ?_
            simp only [Act.put, List.setIfInBounds_toArray, List.set_cons_zero, List.set_cons_succ]
            refine ord_pass_l rfl rfl ?_
            simp only [Act.put, List.setIfInBounds_toArray, List.set_cons_zero, List.set_cons_succ]
            refine ord_pass_l rfl rfl ?_
            simp only [Act.put, List.setIfInBounds_toArray, List.set_cons_zero, List.set_cons_succ]
            refine ord_pass_l rfl rfl ?_
            simp only [Act.put, List.setIfInBounds_toArray, List.set_cons_zero, List.set_cons_succ]
            refine ord_read_l rfl rfl (fun W hW => by go_simp; rfl) ?_
            simp only [Act.put, List.setIfInBounds_toArray, List.set_cons_zero, List.set_cons_succ]
            refine ord_nil ?_
            go_simp
            go_wp2_with (first
              | (refine wpList_run rfl (exec_indexAddr_sl rfl HE.out rfl rfl rfl hlt) ?_)
              | (refine wpList_run rfl (exec_loadaddr rfl rfl one5 ((hm3.below.cell (block_lt_of_cell hAi)).trans hAi)) ?_))
            go_loopw [6, 8] (fun vn vc wk => ∃ j : Nat, x < j ∧ j ≤ 256 ∧ vn = .int .i64 ((x : Int) + ngUp t x j) ∧ vc = .int .i64 j ∧ Own w wk [(g, S t)] [(.slice (some A1) b.length c1, 5, vs .u8 (forth b))]) (fun _ vc _ => 256 - (intOf vc).toNat)
            case atStart => exact ⟨x + 1, by omega, by omega, by rw [ngUp_start]; go_num, by go_num, hm3⟩
            case round =>
              obtain ⟨j, hxj, hj, rfl, rfl, hmk⟩ := hrel
              clear hm3
              have hul := ngUp_le t x j
              by_cases hj2 : j < 256
              · have hst := ngUp_step t x j (by omega)
                have hgs := get_S t j hj2
                generalize hN : ngUp t x j = n at *
                have hw4 : IntKind.i64.wrap ((x : Int) + n + 1) = (x : Int) + n + 1 := IntWalk.i64_in _ (by omega)
                by_cases hsee : t.contains (j : Int) = true
                · rw [hsee] at hgs
                  rw [if_pos hsee] at hst
                  have HST := Lib.hid hst
                  have HGS := Lib.hid hgs
                  clear hgs hsee hst
                  go_wp2_with (first
                    | (refine wpList_run rfl (exec_loadcell' rfl rfl (hmk.row 0 rfl) one4 HGS.out) ?_))
                  go_roundw
                  case rel => exact ⟨j + 1, by omega, by omega, by rw [HST.out]; go_num <;> omega, by go_num, hmk⟩
                  case measure => simp [intOf]; omega
                · have hsee' : t.contains (j : Int) = false := by simpa using hsee
                  rw [hsee'] at hgs
                  rw [if_neg hsee] at hst
                  have HST := Lib.hid hst
                  have HGS := Lib.hid hgs
                  clear hgs hsee hsee' hst
                  go_wp2_with (first
                    | (refine wpList_run rfl (exec_loadcell' rfl rfl (hmk.row 0 rfl) one4 HGS.out) ?_))
                  go_roundw
                  case rel => exact ⟨j + 1, by omega, by omega, by rw [HST.out]; go_num, by go_num, hmk⟩
                  case measure => simp [intOf]; omega
              · obtain rfl : j = 256 := by omega
                rw [ngUp_end] at hul ⊢
                generalize ng t x = n at *
                have hw5 : IntKind.i64.wrap ((x : Int) + n) = (x : Int) + n := IntWalk.i64_in _ (by omega)
                go_wp2_with (first
                  | (refine wpList_run rfl (exec_indexAddr_sl rfl HE.out rfl rfl rfl hlt) ?_)
                  | (refine wpList_run rfl (exec_loadaddr rfl rfl one5 ((Src.of_owned (hmk.get 0 rfl)).at hforth.out)) ?_))
                go_roundw
                case rel => exact ⟨i + 1, by omega, by go_num, hmk.dropRow⟩
                case measure => simp [intOf]; omega
      · obtain rfl : i = b.length := by omega
        go_wp2_with (first
          | (go_at_call 20; refine (wakes13 _).mono ?_; rintro e w10 ⟨rfl, hb10⟩; have hm10 := hmr.call hb10; clear hmr))
        go_ret
        exact ⟨rfl, hm10.below⟩
  · obtain ⟨ad, cp, rfl, hc⟩ := hv
    have hn1 : (200 : Int) < b.length := by omega
    have hn2 : decide ((200 : Int) < b.length) = true := decide_eq_true hn1
    clear hc hb hn
    go_enter Try.func6, Try.ntmps6
    have hm := Own.nil w
    go_wp2_with (first
      | (go_at_call 20; refine (wakes13 _).mono ?_; rintro e w1 ⟨rfl, hb1⟩; have hm1 := hm.call hb1; clear hm))
    go_ret
    exact ⟨rfl, hm1.below⟩
end Go.Proofs.Ytaccjnekonmkoaa
