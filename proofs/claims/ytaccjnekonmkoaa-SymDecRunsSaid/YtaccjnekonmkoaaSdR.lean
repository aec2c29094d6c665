/-
  The walk of the law SymDecRuns (winepresslaw16): it returns true.
-/
import Derived.Test.YtaccjnekonmkoaaSdJ
import Derived.Test.YtaccjnekonmkoaaSdP
import Derived.Test.YtaccjnekonmkoaaSdW
namespace Go.Proofs.Ytaccjnekonmkoaa
open Go Go.RowKit

/-- Appending leaves the slice appended to as it was: it is still the call's own; what came out may be read. -/
theorem run_append_back {P : Program} {w : World} {base : Nat} {t ty e : TypeId} {i : TypeInfo} {z : Value} {bytes : Nat} (he : ElTy P t e i z bytes) {v : Value} {n : Nat} {xs : List Value} (hown : w.ownsRow base e 1 v n xs)
    {bd : Addr} {m c : Nat} {news : List Value} (hm : news.length = m) (hnews : ∀ j u, news[j]? = some u → w.cell? (bd.add j) = some u) (h0 : 0 < m) (h1 : ∀ u ∈ news, u.oneCell' = true) (h63 : n + m ≤ maxLen) (hbytes : (n + m) * bytes ≤ 140737488355328) (hbase : base ≤ w.heap.size) :
    ∃ a c' w', (Builtin.append_ #[t, t] ty #[v, .slice (some bd) m c]).run P w = .ok (.slice a (n + m) c') w' ∧ w'.ownsRow base e 1 (.slice a (n + m) c') (n + m) (xs ++ news) ∧ w'.ownsRow base e 1 v n xs ∧ w.grownBy w' v.ownBlock := by
  subst hm
  have hxl : xs.length = n := by rw [hown.1, Nat.mul_one]
  have hsmall : n + news.length ≤ 9223372036854775807 := by simp only [maxLen] at h63; omega
  obtain ⟨a, c', w', hr, h2, h3, h4⟩ := run_append_src (ty := ty) he hown (.inr ⟨bd, c, rfl, hnews⟩) h1 h63 hbytes hbase
  refine ⟨a, c', w', hr, h2, ?_, h3⟩
  rcases hown.2 with ⟨rfl, rfl⟩ | ⟨g, cap, cur, rfl, hbg, hg, hnc, hcm, hcs, htake⟩
  · exact ⟨hown.1, .inl ⟨rfl, rfl⟩⟩
  · by_cases hroom : n + news.length ≤ cap
    · have hr2 := run_append_room (P := P) w t ty e i he.under he.info g n cap cur hg bd news.length c news (by rw [he.size]; omega) hnews h1 hroom (by rw [he.size]; omega)
      rw [hr] at hr2
      simp only [Result.ok.injEq, Value.slice.injEq] at hr2
      obtain ⟨⟨rfl, _, rfl⟩, _⟩ := hr2
      rcases h2.2 with ⟨h, _⟩ | ⟨g', cap', cur', h, hbg', hg', hnc', hcm', hcs', ht'⟩
      · cases h
      · simp only [Value.slice.injEq, Option.some.injEq, Addr.mk.injEq, and_true, true_and] at h
        obtain ⟨rfl, rfl⟩ := h
        refine ⟨hown.1, .inr ⟨g, c', cur', rfl, hbg, hg', hnc, hcm', hcs', ?_⟩⟩
        rw [Nat.mul_one] at ht' ⊢
        have e1 : cur'.toList.take n = (cur'.toList.take (n + news.length)).take n := by rw [List.take_take, Nat.min_eq_left (by omega)]
        rw [e1, ht', List.take_append_of_le_length (by omega), List.take_of_length_le (by omega)]
    · have holds : ∀ j u, xs[j]? = some u → w.cell? ((⟨g, 0, none⟩ : Addr).add j) = some u := hown.cells (g := g) rfl
      have hr2 := run_append_grow (P := P) w t ty e i z he.under he.info he.zero ⟨g, 0, none⟩ n cap xs (by rw [he.size]; exact hown.1) holds bd news.length c news (by rw [he.size]; omega) hnews (by omega) (by omega) (by rw [he.bytes]; exact growslice_fits (by omega) hbytes)
      rw [hr] at hr2
      simp only [Result.ok.injEq] at hr2
      obtain ⟨g1, g2⟩ := owns_new (w := w) (base := w.heap.size) (e := e) (xs := xs) (news := news) (z := z) (n := n) (k := news.length) (old := cap) (Nat.le_refl _) hxl rfl h63 none
      rw [he.cell] at hr2
      have e2 := hr2.2
      subst e2
      exact hown.kept g2 (.inr (by intro h; cases h))
theorem wpList_append_back {P : Program} {ops : Array Oper} {rest : List Oper} {o : Oper} {a : Act} {w0 w : World} {Q : Exit → Act → World → Prop} {rs : List (Nat × Array Value)} {v : Value} {e : TypeId} {xs : List Value} {ss : List Sl} (hm : Own w0 w rs ((v, e, xs) :: ss)) (hgd : Region.wanted o (yielded ops a.tmps) = true) {x y : Operand} {t : TypeId} {i : TypeInfo} {z : Value} {bytes : Nat} (ho : o.op = .call { callee := .builtin .append, args := #[x, y], argTypes := #[t, t] }) (he : ElTy P t e i z bytes)
    (hx : a.eval x = v) {bd : Addr} {m c : Nat} {news : List Value} (hy : a.eval y = .slice (some bd) m c) (hm' : news.length = m) (hnew : ∀ j u, news[j]? = some u → w.cell? (bd.add j) = some u) (h1 : ∀ u ∈ news, u.oneCell' = true)
    (h0 : 0 < m) (hb : (xs.length + m) * bytes ≤ 140737488355328) (hb0 : xs.length + m ≤ 140737488355328)
    (h : ∀ ad c w', Own w0 w' rs ((v, e, xs) :: ss) → Src w' (.slice ad (xs.length + m) c) (xs ++ news) → wpList P ops Q rest (a.put o.dst (.slice ad (xs.length + m) c)) w') : wpList P ops Q (o :: rest) a w := by
  obtain ⟨ad, c', w', hr, h2, h3, h4⟩ := run_append_back (v := v) (xs := xs) (n := xs.length) (c := c) (ty := o.type) he (hm.get 0 rfl) hm' hnew h0 h1 (by simp only [maxLen]; omega) hb hm.below.size
  have hown := hm.putSl 0 rfl h3 h4 (.inl rfl)
  simp only [List.set] at hown
  have h2' : w'.ownsRow w0.heap.size e 1 (.slice ad (xs.length + m) c') (xs ++ news).length (xs ++ news) := by rw [List.length_append, hm']; exact h2
  refine wpList_run hgd ?_ (h ad c' w' hown (Src.of_owned h2'))
  unfold execOp
  simp only [ho, resolve, invoke, builtin, Sem.run_bind, Sem.run_pure, Result.andThen_ok, List.map_toArray, List.map_cons, List.map_nil, hx, hy, hr]
theorem InC.of_own {w : World} {base : Nat} {e : TypeId} {k : IntKind} {v : Value} {l : List Int} (h : w.ownsRow base e 1 v l.length (vs k l)) : InC k w v l := by
  have hs : Src w v (vs k l) := Src.of_owned (by rw [length_vs]; exact h)
  obtain ⟨ad, c, hv, hc⟩ := src_in hs
  refine ⟨ad, c, hv, ?_, hc⟩
  subst hv
  rcases h.2 with ⟨h, h0⟩ | ⟨g, cap, cur, h, _, _, h3, _⟩
  · omega
  · simp only [Value.slice.injEq] at h
    omega
theorem sdr_make {P : Program} {w : World} {o : Oper} {a : Act} (n : Nat) {t e : TypeId} {i : TypeInfo} {z : Value} {bytes : Nat} {x y : Operand}
    (ho : o.op = .makeSlice t x y) (he : ElTy P t e i z bytes) (hx : a.eval x = .int .i64 n) (hy : a.eval y = .int .i64 n) (hb : (bytes : Int) * n ≤ 281474976710656) (hn : (n : Int) ≤ 9223372036854775807) :
    (execOp a.eval o).run P w = .ok (.value (.slice (some ⟨w.heap.size, 0, none⟩) n n)) (w.alloc (.cells (List.replicate n z).toArray e)) := by
  have hr := run_make (P := P) w t e i z he.under he.info he.zero .i64 .i64 n n (by omega) (Int.le_refl _) (by rw [he.bytes]; exact hb) hn
  have hc : madeCells #[z] n = (List.replicate n z).toArray := by
    apply Array.ext
    · simp [madeCells]
    · intro i h1 h2
      have e : i % 1 = 0 := Nat.mod_one i
      simp [madeCells, e]
  unfold execOp
  rw [he.cell, he.size, Nat.mul_one, Int.toNat_natCast, hc] at hr
  simp only [ho, hx, hy, Sem.run_bind, hr, Result.andThen_ok, Sem.run_pure]
theorem val_up : ∀ (p : List Int) (i : Nat), Dig p → val i p + 2 * 2 ^ i ≤ 2 * 2 ^ (i + p.length)
  | [], i, _ => by simp [val]
  | d :: p, i, h => by
    have hp : Dig p := fun x hx => h x (List.mem_cons_of_mem _ hx)
    have h1 := val_up p (i + 1) hp
    have h2 : (2 : Int) ^ (i + 1) = 2 * 2 ^ i := by rw [Int.pow_succ, Int.mul_comm]
    rw [val, List.length_cons, show i + (p.length + 1) = i + 1 + p.length by omega]
    have h3 := pow_pos2 i
    rcases h d (List.mem_cons_self ..) with rfl | rfl <;> omega
/-- The state after some digits. -/
def dAt (most : Int) (D : List Int) (i : Nat) : DS := ⟨new, most, val 0 (D.take i), i, false⟩
theorem dAt_step {most : Int} {D : List Int} {i : Nat} (hD : Dig D) (hm : most ≤ 65536) (hv : val 0 (D.take i) ≤ most) (hi : i < D.length) : dStp (dAt most D i) (gi D i) = if val 0 (D.take (i + 1)) ≤ most then (dAt most D (i + 1), [], false, 0) else (dAt most D i, [], false, 160) := by
  have hp : Dig (D.take i) := fun x hx => hD x (List.mem_of_mem_take hx)
  have hl : (D.take i).length = i := by rw [List.length_take]; omega
  have hd : gi D i = 0 ∨ gi D i = 1 := hD _ (by rw [gi_eq D i hi]; exact List.getElem_mem hi)
  have h := dStp_digit (left := most) vl_new hm hp hv hd
  rw [← take_snoc_gi D i hi, hl, List.length_take, Nat.min_eq_left (by omega)] at h
  exact h
theorem num_take {D : List Int} (hD : Dig D) (hl : D.length ≤ 16) (k : Nat) : numO (D.take k) = (val 0 (D.take k), 0) := by
  have hp : Dig (D.take k) := fun x hx => hD x (List.mem_of_mem_take hx)
  have h1 : (D.take k).length ≤ 16 := by rw [List.length_take]; omega
  have h2 := val_up (D.take k) 0 hp
  have h3 := pow_16 h1
  rw [Nat.zero_add, Int.pow_zero] at h2
  rw [numO, numF_ok _ 0 0 (Int.le_refl _) hp (by omega) (by omega), Int.zero_add]
set_option maxRecDepth 100000 in
set_option maxHeartbeats 1000000 in
theorem sdr_w1 (n most : Int) (w : World)  (p1 : n < 1) : Calls Try.prog 19 #[.int .i64 n, .int .i64 most] w fun e w' => e = .returned (.bool true) ∧ Below w.heap.size w w' := by
  have q1 : decide (n < 1) = true := decide_eq_true p1
  go_enter Try.func19, Try.ntmps19
  have hm := Own.nil w
  go_wp2_with (first
    | (go_at_call 57; have _t := hm; refine (wakes16 _).mono ?_; rintro x w2 ⟨rfl, hb2⟩; have hm2 := hm.call hb2; clear hm))
  go_ret
  exact ⟨rfl, hm2.below⟩
set_option maxRecDepth 100000 in
set_option maxHeartbeats 1000000 in
theorem sdr_w2 (n most : Int) (w : World) (p1 : ¬ n < 1) (p2 : 3000 < n) : Calls Try.prog 19 #[.int .i64 n, .int .i64 most] w fun e w' => e = .returned (.bool true) ∧ Below w.heap.size w w' := by
  have q1 : decide (n < 1) = false := decide_eq_false p1
  have q2 : decide (3000 < n) = true := decide_eq_true p2
  go_enter Try.func19, Try.ntmps19
  have hm := Own.nil w
  go_wp2_with (first
    | (go_at_call 57; have _t := hm; refine (wakes16 _).mono ?_; rintro x w2 ⟨rfl, hb2⟩; have hm2 := hm.call hb2; clear hm))
  go_ret
  exact ⟨rfl, hm2.below⟩
set_option maxRecDepth 100000 in
set_option maxHeartbeats 1000000 in
theorem sdr_w3 (n most : Int) (w : World) (p1 : ¬ n < 1) (p2 : ¬ 3000 < n) (p3 : most < 1) : Calls Try.prog 19 #[.int .i64 n, .int .i64 most] w fun e w' => e = .returned (.bool true) ∧ Below w.heap.size w w' := by
  have q1 : decide (n < 1) = false := decide_eq_false p1
  have q2 : decide (3000 < n) = false := decide_eq_false p2
  have q3 : decide (most < 1) = true := decide_eq_true p3
  go_enter Try.func19, Try.ntmps19
  have hm := Own.nil w
  go_wp2_with (first
    | (go_at_call 57; have _t := hm; refine (wakes16 _).mono ?_; rintro x w2 ⟨rfl, hb2⟩; have hm2 := hm.call hb2; clear hm))
  go_ret
  exact ⟨rfl, hm2.below⟩
set_option maxRecDepth 100000 in
set_option maxHeartbeats 1000000 in
theorem sdr_w4 (n most : Int) (w : World) (p1 : ¬ n < 1) (p2 : ¬ 3000 < n) (p3 : ¬ most < 1) (p4 : 3000 < most) : Calls Try.prog 19 #[.int .i64 n, .int .i64 most] w fun e w' => e = .returned (.bool true) ∧ Below w.heap.size w w' := by
  have q1 : decide (n < 1) = false := decide_eq_false p1
  have q2 : decide (3000 < n) = false := decide_eq_false p2
  have q3 : decide (most < 1) = false := decide_eq_false p3
  have q4 : decide (3000 < most) = true := decide_eq_true p4
  go_enter Try.func19, Try.ntmps19
  have hm := Own.nil w
  go_wp2_with (first
    | (go_at_call 57; have _t := hm; refine (wakes16 _).mono ?_; rintro x w2 ⟨rfl, hb2⟩; have hm2 := hm.call hb2; clear hm))
  go_ret
  exact ⟨rfl, hm2.below⟩
theorem oneT_runS {P : Program} {ops : Array Oper} {Q : Exit → Act → World → Prop} {i : Nat} {t : OT} {S : World → Prop} {a : Act} {w w' : World} {o : Oper} {v : Value} (ho : ops.toList[i]? = some o) (hw : Region.wanted o (yielded ops a.tmps) = true)
    (hrun : (execOp a.eval o).run P w = .ok (.value v) w') (S' : World → Prop) (hSS : ∀ W, S' W → S W) (hS : S' w') (h : wpT P ops Q t S' (a.put o.dst v) w') : oneT P ops Q i t S a w :=
  oneT_do ho hw fun K hK => by unfold Oper.wp; rw [hrun]; exact hK _ _ ⟨S', hSS, hS, h⟩
theorem src8z {w : World} {g n : Nat} (h : RowIs w g (List.replicate n (Value.int .u8 0)).toArray) : Src w (.slice (some ⟨g, 0, none⟩) n n) (vs .u8 (List.replicate n 0)) := by
  have e : vs .u8 (List.replicate n 0) = List.replicate n (Value.int .u8 0) := by simp [vs]
  rw [e]
  exact Src.of_row h 0 n n _ (List.length_replicate ..) (fun j u hj => by rw [Nat.zero_add, List.getElem?_toArray]; exact hj)
set_option maxRecDepth 100000 in
set_option maxHeartbeats 8000000 in
theorem sdr_eq (n : Nat) (most : Int) (w : World) (p1 : ¬ (n : Int) < 1) (p2 : ¬ 3000 < (n : Int)) (p3 : ¬ most < 1) (p4 : ¬ 3000 < most) (hnm : (n : Int) = most) : Calls Try.prog 19 #[.int .i64 n, .int .i64 most] w fun e w' => e = .returned (.bool true) ∧ Below w.heap.size w w' := by
  have q1 : decide ((n : Int) < 1) = false := decide_eq_false p1
  have q2 : decide (3000 < (n : Int)) = false := decide_eq_false p2
  have q3 : decide (most < 1) = false := decide_eq_false p3
  have q4 : decide (3000 < most) = false := decide_eq_false p4
  have hD := dig_dg n n (Nat.le_refl _)
  have hvD : val 0 (dg n) = n := by rw [val_dg n n (Nat.le_refl _) 0, Int.pow_zero, Int.mul_one]
  have hlD : (dg n).length ≤ 16 := len_val hD (by omega)
  have CD : Hid (∀ w, Calls Try.prog 35 #[.int .i64 n] w (ListPost w (dg n) 0)) := Lib.hid fun w => rdigits_in n (by omega) w
  have CA : Hid (∀ w v, In .i64 w v (dg n ++ [257]) → Calls Try.prog 64 #[.int .i64 most, v] w (TPost w (dAll most (dg n ++ [257])))) := Lib.hid fun w v hv => dall_any most _ v w hv (by rw [List.length_append, List.length_singleton]; omega)
  have hR := runs_law n most (by omega) (by omega)
  rw [if_pos hnm] at hR
  rw [hR] at CA
  clear hR hvD
  subst hnm
  obtain ⟨x, hx⟩ : ∃ x, x = List.replicate n (0 : Int) := ⟨_, rfl⟩
  rw [← hx] at CA
  have HX := Lib.hid hx
  clear hx
  obtain ⟨i5, hE5⟩ := el24
  have HE5 := Lib.hid hE5
  clear hE5
  generalize dg n = D at *
  obtain ⟨i3, hE⟩ := el39
  have HE := Lib.hid hE
  clear hE
  have hc0 : ((D.length + 1 : Nat) : Int) = (D.length : Int) + 1 := by push_cast; rfl
  have hw0 : IntKind.i64.wrap ((D.length : Int) + 1) = (D.length : Int) + 1 := IntWalk.i64_in _ (by omega)
  go_enter Try.func19, Try.ntmps19
  have hm := Own.nil w
  go_upto_region 6 with (first
    | (go_at_call 35; have _t := hm; refine (CD.out _).mono ?_; rintro y w1 ⟨⟨r1, rfl, hq1⟩, hb1⟩; obtain ⟨aD, cD, rfl⟩ := owns_shape0 hq1; have hm1 := hm.callSl hb1 (by rw [length_vs]; exact hq1); clear hm hq1)
    | (have _t := hm1; have hm2 := hm1.alloc (vs .i64 [257]).toArray 3; refine wpList_append_back (news := vs .i64 [257]) hm2 rfl rfl HE.out rfl rfl rfl (fun j u hj => cell_row (hm2.row 0 rfl) j (by rw [List.getElem?_toArray]; exact hj)) (vs_one _ _) (by decide) (by simp only [length_vs]; omega) (by simp only [length_vs]; omega) ?_; intro ad3 c3 w3 hm3 hs3; have HS3 := Lib.hid (show Src w3 _ (vs .i64 (D ++ [257])) by rw [vs_append]; exact hs3); clear hs3 hm1 hm2)
    | (go_at_call 64; have _t := hm3; refine (CA.out _ _ (src_in HS3.out)).mono ?_; rintro y w4 ⟨⟨r4, rfl, hq4⟩, hb4⟩; obtain ⟨a4, c4, rfl⟩ := owns_shape0 hq4; have hm4 := hm3.callSl hb4 (by rw [length_vs]; exact hq4); clear hm3 hq4 HS3))
  refine wp_region_T (.rd 0 (.rd 1 (.rd 2 (.rd 3 (.rd 4 (.rd 5 (.rd 6 (.rd 7 (.rd 8 (.rd 9 (.rd 10 (.rd 11 (.rd 12 (.one 13 (.rd 14 (.rd 15 (.rd 16 (.rd 17 (.one 18 (.rd 19 (.rd 20 (.done)))))))))))))))))))))) (fun W => Below w.heap.size w W ∧ Src W (.slice a4 x.length c4) (vs .u8 x)) rfl (by kernel_rfl) rfl (by kernel_rfl) (fun _ _ d _ _ h => by cases d <;> exact h) ⟨(hm4.drawn (w4.drawn + 1)).below, Src.of_owned ((hm4.drawn (w4.drawn + 1)).get 0 rfl)⟩ ?_
  have k0 := hm4.drawn (w4.drawn + 1)
  generalize ({ w4 with drawn := w4.drawn + 1 } : World) = wn at k0 ⊢
  clear hm4
  refine T_read rfl rfl (fun W hW => by go_simp; rfl) ?_
  try simp only [Act.put, List.setIfInBounds_toArray, List.set_cons_zero, List.set_cons_succ]
  refine T_read rfl rfl (fun W hW => by go_simp; rfl) ?_
  try simp only [Act.put, List.setIfInBounds_toArray, List.set_cons_zero, List.set_cons_succ]
  refine T_read rfl rfl (fun W hW => by go_simp; rfl) ?_
  try simp only [Act.put, List.setIfInBounds_toArray, List.set_cons_zero, List.set_cons_succ]
  refine T_read rfl rfl (fun W hW => by go_simp; rfl) ?_
  try simp only [Act.put, List.setIfInBounds_toArray, List.set_cons_zero, List.set_cons_succ]
  refine T_read rfl rfl (fun W hW => by go_simp; rfl) ?_
  try simp only [Act.put, List.setIfInBounds_toArray, List.set_cons_zero, List.set_cons_succ]
  refine T_read rfl rfl (fun W hW => by go_simp; rfl) ?_
  try simp only [Act.put, List.setIfInBounds_toArray, List.set_cons_zero, List.set_cons_succ]
  refine T_read rfl rfl (fun W hW => by go_simp; rfl) ?_
  try simp only [Act.put, List.setIfInBounds_toArray, List.set_cons_zero, List.set_cons_succ]
  refine T_read rfl rfl (fun W hW => by go_simp; rfl) ?_
  try simp only [Act.put, List.setIfInBounds_toArray, List.set_cons_zero, List.set_cons_succ]
  refine T_read rfl rfl (fun W hW => by go_simp; rfl) ?_
  try simp only [Act.put, List.setIfInBounds_toArray, List.set_cons_zero, List.set_cons_succ]
  refine T_read rfl rfl (fun W hW => by go_simp; rfl) ?_
  try simp only [Act.put, List.setIfInBounds_toArray, List.set_cons_zero, List.set_cons_succ]
  refine T_read rfl rfl (fun W hW => by go_simp; rfl) ?_
  try simp only [Act.put, List.setIfInBounds_toArray, List.set_cons_zero, List.set_cons_succ]
  refine T_read rfl rfl (fun W hW => exec_tostr_s (l := x) (v := .slice a4 x.length c4) rfl rfl hW.2) ?_
  try simp only [Act.put, List.setIfInBounds_toArray, List.set_cons_zero, List.set_cons_succ]
  refine T_read rfl rfl (fun W hW => by go_simp; rfl) ?_
  try simp only [Act.put, List.setIfInBounds_toArray, List.set_cons_zero, List.set_cons_succ]
  refine T_one ?_
  refine oneT_runS rfl rfl (sdr_make n rfl HE5.out rfl rfl (by omega) (by omega)) (fun W => (Below w.heap.size w W ∧ Src W (.slice a4 x.length c4) (vs .u8 x)) ∧ Src W (.slice (some ⟨wn.heap.size, 0, none⟩) n n) (vs .u8 (List.replicate n 0))) (fun W h => h.1) ⟨⟨(k0.alloc _ 5).below, Src.of_owned ((k0.alloc _ 5).get 0 rfl)⟩, src8z ((k0.alloc _ 5).row 0 rfl)⟩ ?_
  have k1 := k0.alloc (List.replicate n (Value.int .u8 0)).toArray 5
  have hz1 := src8z (k1.row 0 rfl)
  clear k0
  try simp only [Act.put, List.setIfInBounds_toArray, List.set_cons_zero, List.set_cons_succ]
  refine T_read rfl rfl (fun W hW => exec_tostr_s (l := List.replicate n 0) (v := .slice (some ⟨wn.heap.size, 0, none⟩) n n) rfl rfl hW.2) ?_
  try simp only [Act.put, List.setIfInBounds_toArray, List.set_cons_zero, List.set_cons_succ]
  refine T_read rfl rfl (fun W hW => exec_eqlstr rfl rfl rfl (b := true) (by rw [HX.out]; exact beq_self_eq_true _)) ?_
  try simp only [Act.put, List.setIfInBounds_toArray, List.set_cons_zero, List.set_cons_succ]
  refine T_read rfl rfl (fun W hW => by go_simp; rfl) ?_
  try simp only [Act.put, List.setIfInBounds_toArray, List.set_cons_zero, List.set_cons_succ]
  refine T_read rfl rfl (fun W hW => by go_simp; rfl) ?_
  try simp only [Act.put, List.setIfInBounds_toArray, List.set_cons_zero, List.set_cons_succ]
  refine T_one ?_
  refine oneT_do rfl rfl (fun K hK => ?_)
  go_simp
  refine (wakes16 _).mono ?_
  rintro y v2 ⟨rfl, hb2⟩
  have k2 := k1.call hb2
  have hz2 := hz1.below hb2
  clear k1
  refine hK _ _ ⟨_, fun _ h => h, ⟨⟨k2.below, Src.of_owned (k2.get 0 rfl)⟩, hz2⟩, ?_⟩
  clear hK K
  try simp only [Act.put, List.setIfInBounds_toArray, List.set_cons_zero, List.set_cons_succ]
  refine T_read rfl rfl (fun W hW => by go_simp; rfl) ?_
  try simp only [Act.put, List.setIfInBounds_toArray, List.set_cons_zero, List.set_cons_succ]
  refine T_read rfl rfl (fun W hW => by go_simp; rfl) ?_
  try simp only [Act.put, List.setIfInBounds_toArray, List.set_cons_zero, List.set_cons_succ]
  refine T_done ?_
  go_simp
  go_wp2
  go_ret
  exact ⟨rfl, k2.below⟩
set_option maxRecDepth 100000 in
set_option maxHeartbeats 8000000 in
theorem sdr_ne (n : Nat) (most : Int) (w : World) (p1 : ¬ (n : Int) < 1) (p2 : ¬ 3000 < (n : Int)) (p3 : ¬ most < 1) (p4 : ¬ 3000 < most) (hnm : ¬ (n : Int) = most) : Calls Try.prog 19 #[.int .i64 n, .int .i64 most] w fun e w' => e = .returned (.bool true) ∧ Below w.heap.size w w' := by
  have q1 : decide ((n : Int) < 1) = false := decide_eq_false p1
  have q2 : decide (3000 < (n : Int)) = false := decide_eq_false p2
  have q3 : decide (most < 1) = false := decide_eq_false p3
  have q4 : decide (3000 < most) = false := decide_eq_false p4
  have hD := dig_dg n n (Nat.le_refl _)
  have hvD : val 0 (dg n) = n := by rw [val_dg n n (Nat.le_refl _) 0, Int.pow_zero, Int.mul_one]
  have hlD : (dg n).length ≤ 16 := len_val hD (by omega)
  have CD : Hid (∀ w, Calls Try.prog 35 #[.int .i64 n] w (ListPost w (dg n) 0)) := Lib.hid fun w => rdigits_in n (by omega) w
  have CA : Hid (∀ w v, In .i64 w v (dg n ++ [257]) → Calls Try.prog 64 #[.int .i64 most, v] w (TPost w (dAll most (dg n ++ [257])))) := Lib.hid fun w v hv => dall_any most _ v w hv (by rw [List.length_append, List.length_singleton]; omega)
  have hR := runs_law n most (by omega) (by omega)
  rw [if_neg hnm] at hR
  rw [hR] at CA
  clear hR hvD
  have q5 : ((n : Int) == most) = false := by simpa using hnm
  have q6 : decide ((n : Int) = most) = false := decide_eq_false hnm
  clear hnm
  generalize dg n = D at *
  obtain ⟨i3, hE⟩ := el39
  have HE := Lib.hid hE
  clear hE
  have CN : Hid (∀ w, Calls Try.prog 62 #[.int .i64 most] w fun e w' => (e = .returned (.agg (V (dAt most D 0)))) ∧ Below w.heap.size w w') := Lib.hid fun w => by
    have h := dnew_any most w
    rwa [show dNew most = dAt most D 0 by rw [dNew_in p3 (by omega)]; rfl] at h
  have hl0 : ∀ i, (dAt most D i).l.length = 256 := fun i => len_new
  go_enter Try.func19, Try.ntmps19
  have hm := Own.nil w
  go_wp2_with (first
    | (go_at_call 35; have _t := hm; refine (CD.out _).mono ?_; rintro x w1 ⟨⟨r1, rfl, hq1⟩, hb1⟩; obtain ⟨aD, cD, rfl⟩ := owns_shape0 hq1; have hm1 := hm.callSl hb1 (by rw [length_vs]; exact hq1); clear hm hq1)
    | (have _t := hm1; have hm2 := hm1.alloc (vs .i64 [257]).toArray 3; refine wpList_append_back (news := vs .i64 [257]) hm2 rfl rfl HE.out rfl rfl rfl (fun j u hj => cell_row (hm2.row 0 rfl) j (by rw [List.getElem?_toArray]; exact hj)) (vs_one _ _) (by decide) (by simp only [length_vs]; omega) (by simp only [length_vs]; omega) ?_; intro ad3 c3 w3 hm3 hs3; have HS3 := Lib.hid (show Src w3 _ (vs .i64 (D ++ [257])) by rw [vs_append]; exact hs3); clear hs3 hm1 hm2)
    | (go_at_call 64; have _t := hm3; refine (CA.out _ _ (src_in HS3.out)).mono ?_; rintro x w4 ⟨⟨r4, rfl, hq4⟩, hb4⟩; obtain ⟨a4, c4, rfl⟩ := owns_shape0 hq4; have hm4 := (hm3.call hb4).dropRow; clear hm3 hq4 HS3)
    | (go_at_call 62; have _t := hm4; refine (CN.out _).mono ?_; rintro x w5 ⟨rfl, hb5⟩; have hm5 := hm4.call hb5; clear hm4)
    | (refine wpList_alloc_o hm5 rfl rfl zero70 ?_; intro w6 g hm6; clear hm5)
    | (refine wpList_store_o 0 hm6 rfl rfl rfl rfl rfl (aggV (hl0 0)) (size_VV (hl0 0) len_DS0) (V_one _) ?_; intro w7 hm7; simp only [List.set] at hm7; clear hm6))
  go_loopw [11] (fun u wr => ∃ (i : Nat), i ≤ D.length ∧ u = .int .i64 i ∧ val 0 (D.take i) ≤ most ∧ Own w wr [(g, V (dAt most D i))] [(.slice aD D.length cD, 3, vs .i64 D)]) (fun u _ => D.length - (intOf u).toNat)
  case atStart => exact ⟨0, by omega, rfl, by show (0 : Int) ≤ most; omega, hm7⟩
  case round =>
    obtain ⟨i, hi, rfl, hv, hmr⟩ := hrel
    clear hm7
    by_cases hlt : i < D.length
    · have hinc : InC .i64 wr (.slice aD D.length cD) D := InC.of_own (by have h := hmr.get 0 rfl; rwa [length_vs] at h)
      obtain ⟨A, rfl, hcap⟩ : ∃ A, aD = some A ∧ D.length ≤ cD := by
        obtain ⟨_, _, e0, h1, h2⟩ := hinc
        simp only [Value.slice.injEq, true_and] at e0
        obtain ⟨rfl, rfl⟩ := e0
        obtain ⟨A, hA, _⟩ := h2 i hlt
        exact ⟨A, hA, h1⟩
      have HSUB : Hid (∀ W, W.ownsRow w.heap.size 3 1 (.slice (some A) D.length cD) (vs .i64 D).length (vs .i64 D) → In .i64 W (.slice (subAt (some A) cD 0) (i + 1 - 0) (cD - 0)) (D.take (i + 1))) := Lib.hid fun W h => by
        have h2 := (InC.of_own (by rwa [length_vs] at h)).sub (Nat.zero_le _) (show i + 1 ≤ D.length from hlt)
        rw [seg, List.drop_zero] at h2
        exact h2.toIn
      have HA : Hid (∀ W, Src W (.slice (some A) D.length cD) (vs .i64 D) → W.cell? (A.add i) = some (.int .i64 (gi D i))) := Lib.hid fun W h => by
        obtain ⟨_, _, e0, h2⟩ := src_in h
        simp only [Value.slice.injEq, true_and] at e0
        obtain ⟨rfl, rfl⟩ := e0
        obtain ⟨A', hA, hc⟩ := h2 i hlt
        obtain rfl : A = A' := by injection hA
        exact hc
      have CM : Hid (∀ w v, In .i64 w v (D.take (i + 1)) → Calls Try.prog 37 #[v] w (PairPost w (val 0 (D.take (i + 1))) 0)) := Lib.hid fun w v hv => by
        have h := rnumber_any v _ w hv (by rw [List.length_take]; omega)
        rwa [num_take hD hlD] at h
      have CS := Lib.hid fun w => dstep_any (dAt most D i) (gi D i) w len_new vl_new.bytes
      have hst := dAt_step hD (by omega) hv hlt
      have hvo := vl_dStp (dAt most D i) (gi D i) vl_new
      generalize dStp (dAt most D i) (gi D i) = R at *
      generalize gi D i = d at *
      obtain ⟨o, t, f, e⟩ := R
      have hlo := hvo.len
      dsimp only at *
      have HST := Lib.hid hst
      have hci : i + 1 ≤ cD := by omega
      have hw1 : IntKind.i64.wrap ((i : Int) + 1) = ((i + 1 : Nat) : Int) := by rw [IntWalk.i64_in _ (by omega)]; push_cast; rfl
      clear hst hinc hvo
      have hlA := hl0 i
      go_upto_region 12 with (first
        | (refine wpList_run rfl (exec_sub (l := 0) (h := i + 1) rfl HE.out rfl (.inl ⟨rfl, rfl⟩) (.inr ⟨_, rfl⟩) (Nat.zero_le _) hci) ?_)
        | (go_at_call 37; have _t := hmr; refine (CM.out _ _ (HSUB.out _ (hmr.get 0 rfl))).mono ?_; rintro x w7 ⟨rfl, hb7⟩; have hm7 := hmr.call hb7; clear hmr))
      go_upto_region 12 with fail
      apply wp_region_TJ (.rd 0 (.rd 1 (.rd 2 (.rd 3 (.rd 4 (.two 5 (.rd 6 (.rd 7 (.rd 8 (.rd 9 (.rd 10 (.one 11 (.one 12 (.rd 13 (.rd 14 (.rd 15 (.done))))))))))) 11 (.one 5 (.rd 6 (.rd 7 (.rd 8 (.rd 9 (.rd 10 (.one 12 (.rd 13 (.rd 14 (.rd 15 (.done))))))))))))))))) (fun W => Below w.heap.size w W ∧ RowIs W g (V (dAt most D i)) ∧ Src W (.slice (some A) D.length cD) (vs .i64 D)) (fun (q : Nat) (a : Option Addr) (c : Nat) (W : World) => Own w W [(q, V o), (g, V (dAt most D i))] [(.slice (some A) D.length cD, 3, vs .i64 D)] ∧ Src W (.slice a t.length c) (vs .u8 t)) rfl (by kernel_rfl) rfl (by kernel_rfl) ⟨(hm7.drawn (w7.drawn + 1)).below, (hm7.drawn (w7.drawn + 1)).row 0 rfl, Src.of_owned ((hm7.drawn (w7.drawn + 1)).get 0 rfl)⟩
      · have hn := hm7.drawn (w7.drawn + 1)
        generalize ({ w7 with drawn := w7.drawn + 1 } : World) = wn at hn ⊢
        refine T_read rfl rfl (fun W hW => exec_load_all rfl rfl hW.2.1 (aggV hlA)) ?_
        try simp only [Act.put, List.setIfInBounds_toArray, List.set_cons_zero, List.set_cons_succ]
        refine T_read rfl rfl (fun W hW => by go_simp; rfl) ?_
        try simp only [Act.put, List.setIfInBounds_toArray, List.set_cons_zero, List.set_cons_succ]
        refine T_read rfl rfl (fun W hW => by go_simp; rfl) ?_
        try simp only [Act.put, List.setIfInBounds_toArray, List.set_cons_zero, List.set_cons_succ]
        refine T_read rfl rfl (fun W hW => exec_indexAddr_sl rfl HE.out rfl rfl rfl hlt) ?_
        try simp only [Act.put, List.setIfInBounds_toArray, List.set_cons_zero, List.set_cons_succ]
        refine T_read rfl rfl (fun W hW => exec_loadaddr rfl rfl one3 (HA.out _ hW.2.2)) ?_
        try simp only [Act.put, List.setIfInBounds_toArray, List.set_cons_zero, List.set_cons_succ]
        refine T_two ?_ ?_
        · refine oneT_do rfl rfl (fun K hK => ?_)
          go_simp
          refine (CS.out _).mono ?_
          rintro x v1 ⟨⟨x1, rfl, hs1⟩, hb1⟩
          obtain ⟨a1, c1, rfl⟩ := hs1.shape
          have k1 := hn.call hb1
          have HS1 := Lib.hid hs1.src
          clear hn hs1
          refine hK _ _ ⟨_, fun _ h => h, ⟨k1.below, k1.row 0 rfl, Src.of_owned (k1.get 0 rfl)⟩, ?_⟩
          clear hK K
          refine T_read rfl rfl (fun W hW => by go_simp; rfl) ?_
          try simp only [Act.put, List.setIfInBounds_toArray, List.set_cons_zero, List.set_cons_succ]
          refine T_read rfl rfl (fun W hW => by go_simp; rfl) ?_
          try simp only [Act.put, List.setIfInBounds_toArray, List.set_cons_zero, List.set_cons_succ]
          refine T_read rfl rfl (fun W hW => by go_simp; rfl) ?_
          try simp only [Act.put, List.setIfInBounds_toArray, List.set_cons_zero, List.set_cons_succ]
          refine T_read rfl rfl (fun W hW => by go_simp; rfl) ?_
          try simp only [Act.put, List.setIfInBounds_toArray, List.set_cons_zero, List.set_cons_succ]
          refine T_read rfl rfl (fun W hW => by go_simp; rfl) ?_
          try simp only [Act.put, List.setIfInBounds_toArray, List.set_cons_zero, List.set_cons_succ]
          refine T_one ?_
          refine oneT_alloc_x k1 rfl rfl rfl zero70 ⟨(k1.alloc (V DS0) 70).below, (k1.alloc (V DS0) 70).row 1 rfl, Src.of_owned ((k1.alloc (V DS0) 70).get 0 rfl)⟩ (fun k2 => ?_)
          try simp only [Act.put, List.setIfInBounds_toArray, List.set_cons_zero, List.set_cons_succ]
          refine T_one ?_
          refine oneT_store_x 0 k2 rfl rfl rfl rfl rfl rfl (aggV hlo) (size_VV hlo len_DS0) (V_one _) ⟨(k2.setRow 0 (V o) rfl).below, (k2.setRow 0 (V o) rfl).row 1 rfl, Src.of_owned ((k2.setRow 0 (V o) rfl).get 0 rfl)⟩ (fun k3 => ?_)
          simp only [List.set] at k3
          try simp only [Act.put]
          refine T_read rfl rfl (fun W hW => by go_simp; rfl) ?_
          try simp only [Act.put, List.setIfInBounds_toArray, List.set_cons_zero, List.set_cons_succ]
          refine T_read rfl rfl (fun W hW => by go_simp; rfl) ?_
          try simp only [Act.put, List.setIfInBounds_toArray, List.set_cons_zero, List.set_cons_succ]
          refine T_read rfl rfl (fun W hW => by go_simp; rfl) ?_
          try simp only [Act.put, List.setIfInBounds_toArray, List.set_cons_zero, List.set_cons_succ]
          refine T_done ?_
          have HF := HS1.out.fresh (V DS0) 70 (V o)
          generalize World.setRow _ _ (V o) = wz at k3 HF ⊢
          generalize v1.heap.size = q at k3 ⊢
          exact ⟨rfl, q, a1, c1, rfl, k3, HF⟩
        · refine oneT_alloc_x hn rfl rfl rfl zero70 ⟨(hn.alloc (V DS0) 70).below, (hn.alloc (V DS0) 70).row 1 rfl, Src.of_owned ((hn.alloc (V DS0) 70).get 0 rfl)⟩ (fun k2 => ?_)
          clear hn
          try simp only [Act.put, List.setIfInBounds_toArray, List.set_cons_zero, List.set_cons_succ]
          refine T_one ?_
          refine oneT_do rfl rfl (fun K hK => ?_)
          go_simp
          refine (CS.out _).mono ?_
          rintro x v1 ⟨⟨x1, rfl, hs1⟩, hb1⟩
          obtain ⟨a1, c1, rfl⟩ := hs1.shape
          have HG := Lib.hid ((k2.row 0 rfl).lt)
          have k3 := k2.call hb1
          have HS1 := Lib.hid hs1
          clear k2 hs1
          refine hK _ _ ⟨_, fun _ h => h, ⟨k3.below, k3.row 1 rfl, Src.of_owned (k3.get 0 rfl)⟩, ?_⟩
          clear hK K
          refine T_read rfl rfl (fun W hW => by go_simp; rfl) ?_
          try simp only [Act.put, List.setIfInBounds_toArray, List.set_cons_zero, List.set_cons_succ]
          refine T_read rfl rfl (fun W hW => by go_simp; rfl) ?_
          try simp only [Act.put, List.setIfInBounds_toArray, List.set_cons_zero, List.set_cons_succ]
          refine T_read rfl rfl (fun W hW => by go_simp; rfl) ?_
          try simp only [Act.put, List.setIfInBounds_toArray, List.set_cons_zero, List.set_cons_succ]
          refine T_read rfl rfl (fun W hW => by go_simp; rfl) ?_
          try simp only [Act.put, List.setIfInBounds_toArray, List.set_cons_zero, List.set_cons_succ]
          refine T_read rfl rfl (fun W hW => by go_simp; rfl) ?_
          try simp only [Act.put, List.setIfInBounds_toArray, List.set_cons_zero, List.set_cons_succ]
          refine T_one ?_
          refine oneT_store_x 0 k3 rfl rfl rfl rfl rfl rfl (aggV hlo) (size_VV hlo len_DS0) (V_one _) ⟨(k3.setRow 0 (V o) rfl).below, (k3.setRow 0 (V o) rfl).row 1 rfl, Src.of_owned ((k3.setRow 0 (V o) rfl).get 0 rfl)⟩ (fun k4 => ?_)
          simp only [List.set] at k4
          try simp only [Act.put]
          refine T_read rfl rfl (fun W hW => by go_simp; rfl) ?_
          try simp only [Act.put, List.setIfInBounds_toArray, List.set_cons_zero, List.set_cons_succ]
          refine T_read rfl rfl (fun W hW => by go_simp; rfl) ?_
          try simp only [Act.put, List.setIfInBounds_toArray, List.set_cons_zero, List.set_cons_succ]
          refine T_read rfl rfl (fun W hW => by go_simp; rfl) ?_
          try simp only [Act.put, List.setIfInBounds_toArray, List.set_cons_zero, List.set_cons_succ]
          refine T_done ?_
          have HF := (HS1.out.setRow HG.out (V o)).src
          generalize World.setRow _ _ (V o) = wz at k4 HF ⊢
          generalize wn.heap.size = q at k4 ⊢
          exact ⟨rfl, q, a1, c1, rfl, k4, HF⟩
      clear hm7
      rintro q8 a8 c8 w8 ⟨hm8, hs8⟩
      have HS8 := Lib.hid hs8
      clear hs8
      by_cases hle : val 0 (D.take (i + 1)) ≤ most
      · have hs := HST.out
        rw [if_pos hle] at hs
        simp only [Prod.mk.injEq] at hs
        obtain ⟨rfl, rfl, rfl, rfl⟩ := hs
        have q7 : decide (val 0 (D.take (i + 1)) ≤ most) = true := decide_eq_true hle
        clear HST CS CM HA HSUB
        go_wp2_with (first
          | (refine wpList_load_all rfl rfl rfl (hm8.row 0 rfl) (aggV hlo) ?_)
          | (refine wpList_store_o 1 hm8 rfl rfl rfl rfl rfl (aggV hlo) (size_VV hlo hlA) (V_one _) ?_; intro w9 hm9; simp only [List.set] at hm9; clear hm8))
        go_roundw
        case rel => exact ⟨i + 1, by omega, by go_num, hle, hm9.dropRow⟩
        case measure => simp [intOf]; omega
      · have hs := HST.out
        rw [if_neg hle] at hs
        simp only [Prod.mk.injEq] at hs
        obtain ⟨rfl, rfl, rfl, rfl⟩ := hs
        have q7 : decide (val 0 (D.take (i + 1)) ≤ most) = false := decide_eq_false hle
        clear HST CS CM HA HSUB
        go_wp2_with (first
          | (go_at_call 57; have _t := hm8; refine (wakes16 _).mono ?_; rintro x w12 ⟨rfl, hb12⟩; have hm12 := hm8.call hb12; clear hm8))
        go_ret
        exact ⟨rfl, hm12.below⟩
    · obtain rfl : D.length = i := by omega
      go_wp2_with (first
        | (go_at_call 57; have _t := hmr; refine (wakes16 _).mono ?_; rintro x w12 ⟨rfl, hb12⟩; have hm12 := hmr.call hb12; clear hmr))
      go_ret
      exact ⟨rfl, hm12.below⟩
theorem sdr16 (n most : Int) (w : World) : Calls Try.prog 19 #[.int .i64 n, .int .i64 most] w fun e w' => e = .returned (.bool true) ∧ Below w.heap.size w w' := by
  by_cases p1 : n < 1
  · exact sdr_w1 n most w p1
  by_cases p2 : 3000 < n
  · exact sdr_w2 n most w p1 p2
  by_cases p3 : most < 1
  · exact sdr_w3 n most w p1 p2 p3
  by_cases p4 : 3000 < most
  · exact sdr_w4 n most w p1 p2 p3 p4
  obtain ⟨k, rfl⟩ := Int.eq_ofNat_of_zero_le (show 0 ≤ n by omega)
  by_cases p5 : (k : Int) = most
  · exact sdr_eq k most w p1 p2 p3 p4 p5
  · exact sdr_ne k most w p1 p2 p3 p4 p5
end Go.Proofs.Ytaccjnekonmkoaa
