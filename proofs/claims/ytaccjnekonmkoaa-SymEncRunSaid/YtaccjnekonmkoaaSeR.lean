/-
  The walk of winepresslaw15.SymEncRun.
-/
import Derived.Test.YtaccjnekonmkoaaSeQ
import Derived.Laws.MakeOwn
namespace Go.Proofs.Ytaccjnekonmkoaa
open Go Go.RowKit

theorem ego_rep (c : Int) (h0 : 0 ≤ c) (h1 : c < 256) : ∀ (k : Nat) (l : List Int) (r : Nat) (out : List Int), Vl l → gi l 0 = c → ego (List.replicate k c) l r out = (l, r + k, out)
  | 0, l, r, out, _, _ => rfl
  | k + 1, l, r, out, hv, hg => by
    have hp : pos l c = 0 := (pos_zero hv h0 h1).2 hg
    rw [List.replicate_succ, ego, if_pos hp, putL, hp, takeL_zero hv.len, ego_rep c h0 h1 k l (r + 1) out hv hg, show r + 1 + k = r + (k + 1) by omega]
theorem gi_new0 : gi new 0 = 0 := by decide +kernel
theorem ego_zero (m : Nat) : ego (List.replicate m 0) new 0 [] = (new, m, []) := by
  rw [ego_rep 0 (by omega) (by omega) m new 0 [] vl_new gi_new0, Nat.zero_add]
theorem ego_other (m : Nat) {c : Int} (h0 : 0 < c) (h1 : c < 256) : ego (List.replicate (m + 1) c) new 0 [] = (putL new c, m, [pos new c + 1]) := by
  have hp : pos new c ≠ 0 := fun h => by
    have := (pos_zero vl_new (by omega) h1).1 h
    rw [gi_new0] at this
    omega
  rw [List.replicate_succ, ego, if_neg hp, dg_zero, ego_rep c (by omega) h1 m _ 0 _ (vl_new.putL c) (gi_putL_zero vl_new (by omega) h1), Nat.zero_add]
  rfl
/-- i bytes c, and m - i zeros. -/
def fillUp (c : Int) (m i : Nat) : List Int := List.replicate i c ++ List.replicate (m - i) 0
theorem len_fillUp (c : Int) {m i : Nat} (h : i ≤ m) : (fillUp c m i).length = m := by rw [fillUp, List.length_append, List.length_replicate, List.length_replicate]; omega
theorem fillUp_step (c : Int) {m i : Nat} (h : i < m) : (fillUp c m i).set i c = fillUp c m (i + 1) := by
  have e : m - i = (m - (i + 1)) + 1 := by omega
  rw [fillUp, fillUp, List.set_append_right _ _ (by simp), List.length_replicate, Nat.sub_self, e, List.replicate_succ, List.set_cons_zero, List.replicate_succ']
  simp
theorem fillUp_zero (c : Int) (m : Nat) : fillUp c m 0 = List.replicate m 0 := by simp [fillUp]
theorem fillUp_all (c : Int) (m : Nat) : fillUp c m m = List.replicate m c := by simp [fillUp]
theorem in8r {w : World} {g m : Nat} {c : Int} (h : RowIs w g (B (List.replicate m c))) : In .u8 w (.slice (some ⟨g, 0, none⟩) m m) (List.replicate m c) := by
  have h2 := in8 (l := List.replicate m c) h m
  rwa [List.length_replicate] at h2
theorem made_one (z : Value) (k : Nat) : madeCells #[z] k = (List.replicate k z).toArray := by
  apply Array.ext
  · simp [madeCells]
  · intro i h1 h2
    have e : i % 1 = 0 := Nat.mod_one i
    simp [madeCells, e]
theorem wpList_make_o {P : Program} {ops : Array Oper} {rest : List Oper} {o : Oper} {a : Act} {w0 w : World} {Q : Exit → Act → World → Prop} {rs : List (Nat × Array Value)} {ss : List Sl} (n : Nat) (hm : Own w0 w rs ss) (hgd : Region.wanted o (yielded ops a.tmps) = true) {t e : TypeId} {i : TypeInfo} {z : Value} {bytes : Nat} {x y : Operand}
    (ho : o.op = .makeSlice t x y) (he : ElTy P t e i z bytes) (hx : a.eval x = .int .i64 n) (hy : a.eval y = .int .i64 n) (hb : (bytes : Int) * n ≤ 281474976710656) (hn : (n : Int) ≤ 9223372036854775807)
    (h : ∀ w' g, Own w0 w' ((g, (List.replicate n z).toArray) :: rs) ss → wpList P ops Q rest (a.put o.dst (.slice (some ⟨g, 0, none⟩) n n)) w') : wpList P ops Q (o :: rest) a w := by
  have hr := run_make (P := P) w t e i z he.under he.info he.zero .i64 .i64 n n (by omega) (Int.le_refl _) (by rw [he.bytes]; exact hb) hn
  have hrun : (execOp a.eval o).run P w = .ok (.value (.slice (some ⟨w.heap.size, 0, none⟩) n n)) (w.alloc (.cells (List.replicate n z).toArray e)) := by
    unfold execOp
    rw [he.cell, he.size, Nat.mul_one, Int.toNat_natCast, made_one] at hr
    simp only [ho, hx, hy, Sem.run_bind, hr, Result.andThen_ok, Sem.run_pure]
  exact wpList_run hgd hrun (h _ _ (hm.alloc _ e))
set_option maxRecDepth 100000 in
theorem ser_w1 (c many other : Int) (w : World) (h : many < 1) : Calls Try.prog 15 #[.int .u8 c, .int .i64 many, .int .u8 other] w fun e w' => e = .returned (.bool true) ∧ Below w.heap.size w w' := by
  go_enter Try.func15, Try.ntmps15
  have hm := Own.nil w
  go_wp2_with (first
    | (go_at_call 45; have _t := hm; refine (wakes15 _).mono ?_; rintro e w2 ⟨rfl, hb2⟩; have hm2 := hm.call hb2; clear hm))
  go_ret
  exact ⟨rfl, hm2.below⟩
set_option maxRecDepth 100000 in
theorem ser_w2 (c many other : Int) (w : World) (h : ¬ many < 1) (h2 : 200 < many) : Calls Try.prog 15 #[.int .u8 c, .int .i64 many, .int .u8 other] w fun e w' => e = .returned (.bool true) ∧ Below w.heap.size w w' := by
  go_enter Try.func15, Try.ntmps15
  have hm := Own.nil w
  go_wp2_with (first
    | (go_at_call 45; have _t := hm; refine (wakes15 _).mono ?_; rintro e w2 ⟨rfl, hb2⟩; have hm2 := hm.call hb2; clear hm))
  go_ret
  exact ⟨rfl, hm2.below⟩
set_option maxRecDepth 100000 in
theorem ser_w3 (c many other : Int) (w : World) (h : ¬ many < 1) (h2 : ¬ 200 < many) (h3 : c = other) : Calls Try.prog 15 #[.int .u8 c, .int .i64 many, .int .u8 other] w fun e w' => e = .returned (.bool true) ∧ Below w.heap.size w w' := by
  subst h3
  go_enter Try.func15, Try.ntmps15
  have hm := Own.nil w
  go_wp2_with (first
    | (go_at_call 45; have _t := hm; refine (wakes15 _).mono ?_; rintro e w2 ⟨rfl, hb2⟩; have hm2 := hm.call hb2; clear hm))
  go_ret
  exact ⟨rfl, hm2.below⟩
set_option maxRecDepth 100000 in
set_option maxHeartbeats 8000000 in
theorem ser_zero (other : Int) (m : Nat) (w : World) (ho0 : 0 ≤ other) (ho1 : other < 256) (hmm1 : 1 ≤ m) (hmm2 : m ≤ 200) (hne : 0 ≠ other) : Calls Try.prog 15 #[.int .u8 0, .int .i64 m, .int .u8 other] w fun e w' => e = .returned (.bool true) ∧ Below w.heap.size w w' := by
  have hbyte : (0 : Int) ≤ 0 ∧ (0 : Int) < 256 := by omega
  have hLc := vl_new
  have hg0 : gi new 0 = 0 := gi_new0
  have he := ego_zero m
  have hpo : pos (new) other ≠ 0 := fun h => hne (by rw [← hg0]; exact (pos_zero hLc ho0 ho1).1 h)
  have he2 : ego [other] (new) m [] = (putL (new) other, 0, dg m ++ [pos (new) other + 1]) := by rw [ego, if_neg hpo]; rfl
  have hbl : bl (m + 1) = (dg m).length + 1 := by rw [bl, if_neg (by omega), Nat.add_sub_cancel]
  have hL2 := hLc.putL other
  have CS : Hid (∀ wz v, In .u8 wz v (List.replicate m 0) → Calls Try.prog 46 #[.agg (EV new 0), v] wz (StepPost wz (new) m [] 0)) := Lib.hid (fun wz v hv => by
    have h := estep_in new (List.replicate m 0) 0 v wz vl_new (by intro x hx; rw [List.eq_of_mem_replicate hx]; exact hbyte) hv (by rw [List.length_replicate]; omega) (by rw [List.length_replicate]; omega)
    rw [he] at h
    exact h)
  have CT : Hid (∀ wz v, In .u8 wz v [other] → Calls Try.prog 46 #[.agg (EV (new) m), v] wz (StepPost wz (putL (new) other) 0 (dg m ++ [pos (new) other + 1]) 0)) := Lib.hid (fun wz v hv => by
    have h := estep_in (new) [other] m v wz hLc (by intro x hx; rw [List.mem_singleton.1 hx]; exact ⟨ho0, ho1⟩) hv (by simp) (by simp only [List.length_cons, List.length_nil]; omega)
    rw [he2] at h
    exact h)
  have hT : (dg m ++ [pos (new) other + 1]).length = (dg m).length + 1 := by simp
  have hdl := len_dg 31 m (by omega)
  have hll := hLc.len
  have hl2 := hL2.len
  have q1 : (0 == other) = false := by simpa using hne
  have q2 : decide ((0 : Int) = other) = false := decide_eq_false hne
  clear he he2 hpo hL2
  generalize dg m ++ [pos (new) other + 1] = T at *
  generalize putL (new) other = L2 at *
  have HL := Lib.hid hg0
  generalize (dg m).length = D at *
  have HBL := Lib.hid hbl
  have HT := Lib.hid hT
  have HG := Lib.hid hg0
  obtain ⟨i5, hE5⟩ := el24
  have HE5 := Lib.hid hE5
  clear hE5 hbl hT hg0 hLc
  have hmi : ¬ (m : Int) < 1 := by omega
  have hmj : ¬ (200 : Int) < m := by omega
  go_enter Try.func15, Try.ntmps15
  have hm := Own.nil w
  go_wp2_with (first
    | (refine wpList_make_o m hm rfl rfl HE5.out rfl rfl (by omega) (by omega) ?_; intro w1 g1 hm1; clear hm))
  have e : (List.replicate m (Value.int .u8 0)).toArray = B (fillUp 0 m 0) := by rw [fillUp_zero]; simp [B, vs]
  have hm3 : Own w w1 [(g1, B (fillUp 0 m 0))] [] := by rw [← e]; exact hm1
  clear e
  clear hm1
  go_loopw [8] (fun u wr => ∃ i : Nat, i ≤ m ∧ u = .int .i64 i ∧ Own w wr [(g1, B (fillUp 0 m i))] []) (fun u _ => m - (intOf u).toNat)
  case atStart => exact ⟨0, by omega, rfl, hm3⟩
  case round =>
    obtain ⟨i, hi, rfl, hmr⟩ := hrel
    clear hm3
    by_cases hlt : i < m
    · have hsz : i < (B (fillUp 0 m i)).size := by rw [size_B, len_fillUp _ hi]; exact hlt
      have hset : (B (fillUp 0 m i)).setIfInBounds i (.int .u8 0) = B (fillUp 0 m (i + 1)) := by rw [set_B, fillUp_step _ hlt]
      have HSZ := Lib.hid hsz
      have HSET := Lib.hid hset
      clear hsz hset
      go_wp2_with (first
        | (refine wpList_run rfl (exec_indexAddr_sl rfl HE5.out rfl rfl rfl hlt) ?_; simp only [Addr.add_lit, Nat.zero_add])
        | (refine wpList_storecell_o (off := i) (v := .int .u8 0) 0 hmr rfl rfl rfl rfl rfl one5 HSZ.out rfl rfl HSET.out ?_; intro w2 hm2; simp only [List.set] at hm2; clear hmr))
      go_roundw
      case rel => exact ⟨i + 1, by omega, by go_num, hm2⟩
      case measure => simp [intOf]; omega
    · obtain rfl : m = i := by omega
      rw [fillUp_all] at hmr
      go_wp2_with (first
        | (go_at_call 53; have _t := hmr; refine (enew_any _).mono ?_; rintro e w3 ⟨rfl, hb3⟩; have hm3 := hmr.call hb3; clear hmr)
        | (go_at_call 46; have _t := hm3; refine (CS.out _ _ (in8r (hm3.row 0 rfl))).mono ?_; rintro e w4 ⟨⟨r4, rfl, hq4⟩, hb4⟩; obtain ⟨a4, c4, rfl⟩ := owns_shape0 hq4; have hm4 := hm3.callSl hb4 (by rw [length_vs]; exact hq4); clear hm3 hq4)
        | (refine wpList_alloc_o hm4 rfl rfl zero57 ?_; intro w5 g5 hm5; clear hm4)
        | (refine wpList_store_o 0 hm5 rfl rfl rfl rfl rfl (aggE _ hll) (size_EE _ _ hll len_zeros) (EV_one _ _) ?_; intro w6 hm6; simp only [List.set] at hm6; clear hm5)
        | (refine wpList_load_all rfl rfl rfl (hm6.row 0 rfl) (aggE _ hll) ?_)
        | (refine wpList_build1_o (v := .int .u8 other) hm6 rfl rfl HE5.out rfl rfl ?_; intro w7 g7 hm7; clear hm6)
        | (go_at_call 46; have _t := hm7; refine (CT.out _ _ (in8 (l := [other]) (hm7.row 0 rfl) 1)).mono ?_; rintro e w8 ⟨⟨r8, rfl, hq8⟩, hb8⟩; obtain ⟨a8, c8, rfl⟩ := owns_shape0 hq8; have hm8 := (hm7.callSl hb8 (by rw [length_vs]; exact hq8)).dropRow; clear hm7 hq8)
        | (refine wpList_alloc_o hm8 rfl rfl zero57 ?_; intro w9 g9 hm9; clear hm8)
        | (refine wpList_store_o 0 hm9 rfl rfl rfl rfl rfl (aggE _ hl2) (size_EE _ _ hl2 len_zeros) (EV_one _ _) ?_; intro w10 hm10; simp only [List.set] at hm10; clear hm9))
      go_loopw [17, 18] (fun n k wr => ∃ (N K : Nat), n = .int .i64 N ∧ k = .int .i64 K ∧ 1 ≤ K ∧ K ≤ 300 ∧ N ≤ 300 ∧ Hid (N + bl K = D + 1) ∧ Own w wr [(g9, EV L2 0), (g5, EV (new) m), (g1, B (List.replicate m 0))] [(.slice a8 T.length c8, 3, vs .i64 T), (.slice a4 [].length c4, 3, vs .i64 [])]) (fun _ k _ => (intOf k).toNat)
      case atStart => exact ⟨0, m + 1, rfl, by go_num, by omega, by omega, by omega, Lib.hid (by rw [HBL.out]; omega), hm10⟩
      case round =>
        obtain ⟨N, K, rfl, rfl, hK1, hK2, hN, HN, hmr⟩ := hrel
        clear hm10
        by_cases hgt : 1 < K
        · have hst := bl_step K (by omega)
          have hle := bl_le K (by omega)
          have hbnd : N ≤ 100 := by have := HN.out; omega
          have HN2 : Hid ((N + 1) + bl (K / 2) = D + 1) := by show _ = _; have := HN.out; omega
          have f1 : (1 : Int) < K := by omega
          clear hst hle
          go_wp2_with fail
          go_roundw
          case rel => exact ⟨N + 1, K / 2, by go_num, by go_num, by omega, by omega, by omega, HN2, hmr⟩
          case measure => simp [intOf]; omega
        · obtain rfl : K = 1 := by omega
          have hND : N = D := by have := HN.out; have e : bl 1 = 1 := rfl; omega
          subst hND
          have hT2 : ((T.length : Int) == (N : Int) + 1) = true := by rw [HT.out]; simp
          have hT3 : (T.length : Int) = (N : Int) + 1 := by rw [HT.out]; simp
          have hT4 : T.length = N + 1 := HT.out
          clear HN
          have hc0 : (EV (new) m)[0]? = some (.int .u8 0) := by rw [EV, get_Xl _ hll 0 (by decide), HG.out]
          have HC0 := Lib.hid hc0
          have HT4 := Lib.hid hT4
          clear hc0 hT4 hT3
          go_wp2_with (first
            | (refine wpList_run rfl (exec_loadcell' rfl rfl (hmr.row 1 rfl) one3 (run_EV _ hll)) ?_)
            | (refine wpList_run rfl (exec_loadcell' rfl rfl (hmr.row 1 rfl) one5 HC0.out) ?_)
            | (refine wpList_run rfl (exec_loadcell' rfl rfl (hmr.row 0 rfl) one3 (run_EV _ hl2)) ?_)
            | (go_at_call 45; have _t := hmr; refine (wakes15 _).mono ?_; rintro e w22 ⟨rfl, hb22⟩; have hm22 := hmr.call hb22; clear hmr))
          go_ret
          exact ⟨rfl, hm22.below⟩
set_option maxRecDepth 100000 in
set_option maxHeartbeats 8000000 in
theorem ser_more (c other : Int) (m : Nat) (w : World) (hc0 : 0 < c) (hc1 : c < 256) (ho0 : 0 ≤ other) (ho1 : other < 256) (hmm1 : 1 ≤ m) (hmm2 : m ≤ 200) (hne : c ≠ other) : Calls Try.prog 15 #[.int .u8 c, .int .i64 m, .int .u8 other] w fun e w' => e = .returned (.bool true) ∧ Below w.heap.size w w' := by
  obtain ⟨n0, hn0⟩ : ∃ n0, m = n0 + 1 := ⟨m - 1, by omega⟩
  have hbyte : 0 ≤ c ∧ c < 256 := by omega
  have hLc := vl_new.putL c
  have hg0 : gi (putL new c) 0 = c := gi_putL_zero vl_new (by omega) hc1
  have he := ego_other n0 hc0 hc1
  rw [← hn0] at he
  have e1 : (m : Int) - 1 = (n0 : Int) := by omega
  have hn1 : n0 ≤ 200 := by omega
  clear hn0
  have z1 : (c == 0) = false := by simp; omega
  have z2 : ¬ c = 0 := by omega
  have hpo : pos (putL new c) other ≠ 0 := fun h => hne (by rw [← hg0]; exact (pos_zero hLc ho0 ho1).1 h)
  have he2 : ego [other] (putL new c) n0 [] = (putL (putL new c) other, 0, dg n0 ++ [pos (putL new c) other + 1]) := by rw [ego, if_neg hpo]; rfl
  have hbl : bl (n0 + 1) = (dg n0).length + 1 := by rw [bl, if_neg (by omega), Nat.add_sub_cancel]
  have hL2 := hLc.putL other
  have CS : Hid (∀ wz v, In .u8 wz v (List.replicate m c) → Calls Try.prog 46 #[.agg (EV new 0), v] wz (StepPost wz (putL new c) n0 [pos new c + 1] 0)) := Lib.hid (fun wz v hv => by
    have h := estep_in new (List.replicate m c) 0 v wz vl_new (by intro x hx; rw [List.eq_of_mem_replicate hx]; exact hbyte) hv (by rw [List.length_replicate]; omega) (by rw [List.length_replicate]; omega)
    rw [he] at h
    exact h)
  have CT : Hid (∀ wz v, In .u8 wz v [other] → Calls Try.prog 46 #[.agg (EV (putL new c) n0), v] wz (StepPost wz (putL (putL new c) other) 0 (dg n0 ++ [pos (putL new c) other + 1]) 0)) := Lib.hid (fun wz v hv => by
    have h := estep_in (putL new c) [other] n0 v wz hLc (by intro x hx; rw [List.mem_singleton.1 hx]; exact ⟨ho0, ho1⟩) hv (by simp) (by simp only [List.length_cons, List.length_nil]; omega)
    rw [he2] at h
    exact h)
  have hT : (dg n0 ++ [pos (putL new c) other + 1]).length = (dg n0).length + 1 := by simp
  have hdl := len_dg 31 n0 (by omega)
  have hll := hLc.len
  have hl2 := hL2.len
  have q1 : (c == other) = false := by simpa using hne
  have q2 : decide ((c : Int) = other) = false := decide_eq_false hne
  clear he he2 hpo hL2
  generalize dg n0 ++ [pos (putL new c) other + 1] = T at *
  generalize putL (putL new c) other = L2 at *
  generalize putL new c = L at *
  generalize (dg n0).length = D at *
  have HBL := Lib.hid hbl
  have HT := Lib.hid hT
  have HG := Lib.hid hg0
  obtain ⟨i5, hE5⟩ := el24
  have HE5 := Lib.hid hE5
  clear hE5 hbl hT hg0 hLc
  have hmi : ¬ (m : Int) < 1 := by omega
  have hmj : ¬ (200 : Int) < m := by omega
  go_enter Try.func15, Try.ntmps15
  have hm := Own.nil w
  go_wp2_with (first
    | (refine wpList_make_o m hm rfl rfl HE5.out rfl rfl (by omega) (by omega) ?_; intro w1 g1 hm1; clear hm))
  have e : (List.replicate m (Value.int .u8 0)).toArray = B (fillUp c m 0) := by rw [fillUp_zero]; simp [B, vs]
  have hm3 : Own w w1 [(g1, B (fillUp c m 0))] [] := by rw [← e]; exact hm1
  clear e
  clear hm1
  go_loopw [8] (fun u wr => ∃ i : Nat, i ≤ m ∧ u = .int .i64 i ∧ Own w wr [(g1, B (fillUp c m i))] []) (fun u _ => m - (intOf u).toNat)
  case atStart => exact ⟨0, by omega, rfl, hm3⟩
  case round =>
    obtain ⟨i, hi, rfl, hmr⟩ := hrel
    clear hm3
    by_cases hlt : i < m
    · have hsz : i < (B (fillUp c m i)).size := by rw [size_B, len_fillUp _ hi]; exact hlt
      have hset : (B (fillUp c m i)).setIfInBounds i (.int .u8 c) = B (fillUp c m (i + 1)) := by rw [set_B, fillUp_step _ hlt]
      have HSZ := Lib.hid hsz
      have HSET := Lib.hid hset
      clear hsz hset
      go_wp2_with (first
        | (refine wpList_run rfl (exec_indexAddr_sl rfl HE5.out rfl rfl rfl hlt) ?_; simp only [Addr.add_lit, Nat.zero_add])
        | (refine wpList_storecell_o (off := i) (v := .int .u8 c) 0 hmr rfl rfl rfl rfl rfl one5 HSZ.out rfl rfl HSET.out ?_; intro w2 hm2; simp only [List.set] at hm2; clear hmr))
      go_roundw
      case rel => exact ⟨i + 1, by omega, by go_num, hm2⟩
      case measure => simp [intOf]; omega
    · obtain rfl : m = i := by omega
      rw [fillUp_all] at hmr
      go_wp2_with (first
        | (go_at_call 53; have _t := hmr; refine (enew_any _).mono ?_; rintro e w3 ⟨rfl, hb3⟩; have hm3 := hmr.call hb3; clear hmr)
        | (go_at_call 46; have _t := hm3; refine (CS.out _ _ (in8r (hm3.row 0 rfl))).mono ?_; rintro e w4 ⟨⟨r4, rfl, hq4⟩, hb4⟩; obtain ⟨a4, c4, rfl⟩ := owns_shape0 hq4; have hm4 := hm3.callSl hb4 (by rw [length_vs]; exact hq4); clear hm3 hq4)
        | (refine wpList_alloc_o hm4 rfl rfl zero57 ?_; intro w5 g5 hm5; clear hm4)
        | (refine wpList_store_o 0 hm5 rfl rfl rfl rfl rfl (aggE _ hll) (size_EE _ _ hll len_zeros) (EV_one _ _) ?_; intro w6 hm6; simp only [List.set] at hm6; clear hm5)
        | (refine wpList_load_all rfl rfl rfl (hm6.row 0 rfl) (aggE _ hll) ?_)
        | (refine wpList_build1_o (v := .int .u8 other) hm6 rfl rfl HE5.out rfl rfl ?_; intro w7 g7 hm7; clear hm6)
        | (go_at_call 46; have _t := hm7; refine (CT.out _ _ (in8 (l := [other]) (hm7.row 0 rfl) 1)).mono ?_; rintro e w8 ⟨⟨r8, rfl, hq8⟩, hb8⟩; obtain ⟨a8, c8, rfl⟩ := owns_shape0 hq8; have hm8 := (hm7.callSl hb8 (by rw [length_vs]; exact hq8)).dropRow; clear hm7 hq8)
        | (refine wpList_alloc_o hm8 rfl rfl zero57 ?_; intro w9 g9 hm9; clear hm8)
        | (refine wpList_store_o 0 hm9 rfl rfl rfl rfl rfl (aggE _ hl2) (size_EE _ _ hl2 len_zeros) (EV_one _ _) ?_; intro w10 hm10; simp only [List.set] at hm10; clear hm9))
      go_loopw [17, 18] (fun n k wr => ∃ (N K : Nat), n = .int .i64 N ∧ k = .int .i64 K ∧ 1 ≤ K ∧ K ≤ 300 ∧ N ≤ 300 ∧ Hid (N + bl K = D + 1) ∧ Own w wr [(g9, EV L2 0), (g5, EV (L) n0), (g1, B (List.replicate m c))] [(.slice a8 T.length c8, 3, vs .i64 T), (.slice a4 [pos new c + 1].length c4, 3, vs .i64 [pos new c + 1])]) (fun _ k _ => (intOf k).toNat)
      case atStart => exact ⟨0, n0 + 1, rfl, by go_num, by omega, by omega, by omega, Lib.hid (by rw [HBL.out]; omega), hm10⟩
      case round =>
        obtain ⟨N, K, rfl, rfl, hK1, hK2, hN, HN, hmr⟩ := hrel
        clear hm10
        by_cases hgt : 1 < K
        · have hst := bl_step K (by omega)
          have hle := bl_le K (by omega)
          have hbnd : N ≤ 100 := by have := HN.out; omega
          have HN2 : Hid ((N + 1) + bl (K / 2) = D + 1) := by show _ = _; have := HN.out; omega
          have f1 : (1 : Int) < K := by omega
          clear hst hle
          go_wp2_with fail
          go_roundw
          case rel => exact ⟨N + 1, K / 2, by go_num, by go_num, by omega, by omega, by omega, HN2, hmr⟩
          case measure => simp [intOf]; omega
        · obtain rfl : K = 1 := by omega
          have hND : N = D := by have := HN.out; have e : bl 1 = 1 := rfl; omega
          subst hND
          have hT2 : ((T.length : Int) == (N : Int) + 1) = true := by rw [HT.out]; simp
          have hT3 : (T.length : Int) = (N : Int) + 1 := by rw [HT.out]; simp
          have hT4 : T.length = N + 1 := HT.out
          clear HN
          have hc0 : (EV (L) n0)[0]? = some (.int .u8 c) := by rw [EV, get_Xl _ hll 0 (by decide), HG.out]
          have HC0 := Lib.hid hc0
          have HT4 := Lib.hid hT4
          clear hc0 hT4 hT3
          go_wp2_with (first
            | (refine wpList_run rfl (exec_loadcell' rfl rfl (hmr.row 1 rfl) one3 (run_EV _ hll)) ?_)
            | (refine wpList_run rfl (exec_loadcell' rfl rfl (hmr.row 1 rfl) one5 HC0.out) ?_)
            | (refine wpList_run rfl (exec_loadcell' rfl rfl (hmr.row 0 rfl) one3 (run_EV _ hl2)) ?_)
            | (go_at_call 45; have _t := hmr; refine (wakes15 _).mono ?_; rintro e w22 ⟨rfl, hb22⟩; have hm22 := hmr.call hb22; clear hmr))
          go_ret
          exact ⟨rfl, hm22.below⟩
theorem ser15 (c many other : Int) (w : World) (hc : 0 ≤ c ∧ c < 256) (ho : 0 ≤ other ∧ other < 256) : Calls Try.prog 15 #[.int .u8 c, .int .i64 many, .int .u8 other] w fun e w' => e = .returned (.bool true) ∧ Below w.heap.size w w' := by
  by_cases h : many < 1
  · exact ser_w1 c many other w h
  by_cases h2 : 200 < many
  · exact ser_w2 c many other w h h2
  by_cases h3 : c = other
  · exact ser_w3 c many other w h h2 h3
  obtain ⟨m, rfl⟩ := Int.eq_ofNat_of_zero_le (show 0 ≤ many by omega)
  by_cases h0 : c = 0
  · subst h0
    exact ser_zero other m w ho.1 ho.2 (by omega) (by omega) h3
  · exact ser_more c other m w (by omega) hc.2 ho.1 ho.2 (by omega) (by omega) h3
end Go.Proofs.Ytaccjnekonmkoaa
