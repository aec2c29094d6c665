/-
  The walk of the reference winepressref16.All.
-/
import Derived.Test.YtaccjnekonmkoaaSdH
import Derived.Test.YtaccjnekonmkoaaSdI
import Derived.Test.YtaccjnekonmkoaaOrdT
namespace Go.Proofs.Ytaccjnekonmkoaa
open Go Go.RowKit

section
variable {P : Program} {ops : Array Oper} {Q : Exit → Act → World → Prop} {i : Nat} {t : OT} {S : World → Prop} {a : Act} {w w' w0 : World} {o : Oper} {rs : List (Nat × Array Value)} {ss : List Sl}
theorem oneT_alloc_x (hm : Own w0 w rs ss) (ho : ops.toList[i]? = some o) (hw : Region.wanted o (yielded ops a.tmps) = true) {ty : TypeId} (hop : o.op = .alloc ty) {cs : Array Value} (hz : ∀ w, (zeroValue ty).run P w = .ok (.agg cs) w)
    (hS : S (w.alloc (.cells cs ty))) (h : Own w0 (w.alloc (.cells cs ty)) ((w.heap.size, cs) :: rs) ss → wpT P ops Q t S (a.put o.dst (.pointer (some ⟨w.heap.size, 0, none⟩))) (w.alloc (.cells cs ty))) : oneT P ops Q i t S a w :=
  oneT_run ho hw (exec_alloc hop hz) hS (h (hm.alloc cs ty))
theorem oneT_store_x (j : Nat) (hm : Own w0 w rs ss) (ho : ops.toList[i]? = some o) (hw : Region.wanted o (yielded ops a.tmps) = true) {ty : TypeId} {x y : Operand} (hop : o.op = .store ty x y) {g : Nat} (hx : a.eval x = .pointer (some ⟨g, 0, none⟩)) {vs cs : Array Value} (hy : a.eval y = .agg vs)
    (hi : rs[j]? = some (g, cs)) (ht : AggTy P ty vs.size) (hs : vs.size = cs.size) (h1 : ∀ v ∈ vs, v.oneCell' = true)
    (hS : S (w.setRow g vs)) (h : Own w0 (w.setRow g vs) (rs.set j (g, vs)) ss → wpT P ops Q t S (a.put o.dst undef) (w.setRow g vs)) : oneT P ops Q i t S a w := by
  have hrun := exec_store (P := P) (off := 0) hop hx hy (hm.row j hi) ht rfl (by omega) h1
  rw [splice_full cs vs hs] at hrun
  exact oneT_skips ho hw hrun hS (h (hm.setRow j vs hi))
end
set_option maxRecDepth 100000 in
theorem rdall_lo (most : Int) (v : Value) (w : World) (h : most < 1) : Calls Try.prog 65 #[.int .i64 most, v] w (TPost w ([], 0, 2)) := by
  have q1 : decide (most < 1) = true := decide_eq_true h
  go_enter Try.func65, Try.ntmps65
  go_wp2
  refine bodyPost_ret (results_tmp3 rfl _ _ _) rfl ?_
  exact ⟨⟨_, rfl, World.ownsRow_nil _ _ _ _⟩, Below.refl _ _⟩
set_option maxRecDepth 100000 in
theorem rdall_hi (most : Int) (v : Value) (w : World) (h0 : ¬ most < 1) (h : 65536 < most) : Calls Try.prog 65 #[.int .i64 most, v] w (TPost w ([], 0, 2)) := by
  have q1 : decide (most < 1) = false := decide_eq_false h0
  have q2 : decide (65536 < most) = true := decide_eq_true h
  go_enter Try.func65, Try.ntmps65
  go_wp2
  refine bodyPost_ret (results_tmp3 rfl _ _ _) rfl ?_
  exact ⟨⟨_, rfl, World.ownsRow_nil _ _ _ _⟩, Below.refl _ _⟩
set_option maxRecDepth 100000 in
set_option maxHeartbeats 4000000 in
theorem rdall_in (most : Int) (l : List Int) (v : Value) (w : World) (hv : In .i64 w v l) (h1 : ¬ most < 1) (h2 : ¬ 65536 < most) (hL : l.length ≤ 1000000) : Calls Try.prog 65 #[.int .i64 most, v] w (TPost w (dgo (dNew most) l [] 0)) := by
  obtain ⟨ad, cp, rfl, hc⟩ := hv
  obtain ⟨i3, hE⟩ := el39
  obtain ⟨i5, hE5⟩ := el24
  have HE := Lib.hid hE
  have HE5 := Lib.hid hE5
  have HC := Lib.hid hc
  have CN := Lib.hid (rdnew_any most)
  have hvN : Vl (dNew most).l := by rw [dNew_in h1 h2]; exact vl_new
  have hlN : (dNew most).left = most := by rw [dNew_in h1 h2]
  have q1 : decide (most < 1) = false := decide_eq_false h1
  have q2 : decide (65536 < most) = false := decide_eq_false h2
  generalize hR : dgo (dNew most) l [] 0 = R
  have hx0 : dgo (dNew most) (l.drop 0) [] 0 = R := hR
  clear hE hE5 hc hR
  generalize dNew most = N at *
  have hlen := hvN.len
  go_enter Try.func65, Try.ntmps65
  have hm := Own.nil w
  go_wp2_with (first
    | (go_at_call 63; have _t := hm; refine (CN.out _).mono ?_; rintro e w1 ⟨rfl, hb1⟩; have hm1 := hm.call hb1; clear hm)
    | (refine wpList_alloc_o hm1 rfl rfl zero70 ?_; intro w2 g hm2; clear hm1)
    | (refine wpList_store_o 0 hm2 rfl rfl rfl rfl rfl (aggV hlen) (size_VV hlen len_DS0) (V_one _) ?_; intro w3 hm3; simp only [List.set] at hm3; clear hm2))
  have hm4 := hm3.addNil 5
  clear hm3
  go_loopw [8, 9] (fun o u wr => ∃ (k : Nat) (b : DS) (out : List Int) (ao : Option Addr) (co : Nat), k ≤ l.length ∧ u = .int .i64 k ∧ o = .slice ao out.length co ∧ Vl b.l ∧ 0 ≤ b.left ∧ (out.length : Int) + b.left = most ∧ dgo b (l.drop k) out k = R ∧ Own w wr [(g, V b)] [(.slice ao out.length co, 5, vs .u8 out)]) (fun _ u _ => l.length - (intOf u).toNat)
  case atStart => exact ⟨0, N, [], none, 0, by omega, rfl, rfl, hvN, by omega, by simp; omega, hx0, hm4⟩
  case round =>
    obtain ⟨k, b, out, ao, co, hk, rfl, rfl, hvb, h0b, hsum, hx, hmr⟩ := hrel
    clear hm4 hx0 hvN hlN hlen
    have hlb := hvb.len
    by_cases hlt : k < l.length
    · obtain ⟨A, rfl, hA0⟩ := HC.out k hlt
      have HA : Hid (∀ W, Below w.heap.size w W → W.cell? (A.add k) = some (.int .i64 (gi l k))) := Lib.hid (fun W hW => (hW.cell (block_lt_of_cell hA0)).trans hA0)
      rw [dgo_step l k hlt] at hx
      clear hA0
      generalize gi l k = s at *
      have CS := Lib.hid (fun w => rdstep_any b s w hlb hvb.bytes)
      have hvo := vl_dStp b s hvb
      have hlf := dStp_left b s
      generalize dStp b s = D at *
      obtain ⟨o, t, f, e⟩ := D
      have hlo := hvo.len
      dsimp only at *
      go_upto_region 8 with fail
      apply wp_region_TJ (.rd 0 (.rd 1 (.rd 2 (.rd 3 (.rd 4 (.two 5 (.rd 6 (.rd 7 (.rd 8 (.rd 9 (.rd 10 (.one 11 (.one 12 (.rd 13 (.rd 14 (.rd 15 (.done))))))))))) 11 (.one 5 (.rd 6 (.rd 7 (.rd 8 (.rd 9 (.rd 10 (.one 12 (.rd 13 (.rd 14 (.rd 15 (.done))))))))))))))))) (fun W => Below w.heap.size w W ∧ RowIs W g (V b)) (fun (q : Nat) (a : Option Addr) (c : Nat) (W : World) => Own w W [(q, V o), (g, V b)] [(.slice ao out.length co, 5, vs .u8 out)] ∧ Src W (.slice a t.length c) (vs .u8 t)) rfl (by kernel_rfl) rfl (by kernel_rfl) ⟨(hmr.drawn (wr.drawn + 1)).below, (hmr.drawn (wr.drawn + 1)).row 0 rfl⟩
      · have hn := hmr.drawn (wr.drawn + 1)
        generalize ({ wr with drawn := wr.drawn + 1 } : World) = wn at hn ⊢
        refine T_read rfl rfl (fun W hW => exec_load_all rfl rfl hW.2 (aggV hlb)) ?_
        try simp only [Act.put, List.setIfInBounds_toArray, List.set_cons_zero, List.set_cons_succ]
        refine T_read rfl rfl (fun W hW => by go_simp; rfl) ?_
        try simp only [Act.put, List.setIfInBounds_toArray, List.set_cons_zero, List.set_cons_succ]
        refine T_read rfl rfl (fun W hW => by go_simp; rfl) ?_
        try simp only [Act.put, List.setIfInBounds_toArray, List.set_cons_zero, List.set_cons_succ]
        refine T_read rfl rfl (fun W hW => exec_indexAddr_sl rfl HE.out rfl rfl rfl hlt) ?_
        try simp only [Act.put, List.setIfInBounds_toArray, List.set_cons_zero, List.set_cons_succ]
        refine T_read rfl rfl (fun W hW => exec_loadaddr rfl rfl one3 (HA.out _ hW.1)) ?_
        try simp only [Act.put, List.setIfInBounds_toArray, List.set_cons_zero, List.set_cons_succ]
        refine T_two ?_ ?_
        · refine oneT_do rfl rfl (fun K hK => ?_)
          go_simp
          refine (CS.out _).mono ?_
          rintro x v1 ⟨⟨x1, rfl, hs1⟩, hb1⟩
          obtain ⟨a1, c1, rfl⟩ := hs1.shape
          have k1 := hn.call hb1
          have HS1 := Lib.hid hs1.src
          clear hn hs1
          refine hK _ _ ⟨_, fun _ h => h, ⟨k1.below, k1.row 0 rfl⟩, ?_⟩
          clear hK K
          refine T_read rfl rfl (fun W hW => by go_simp; rfl) ?_
          try simp only [Act.put, List.setIfInBounds_toArray, List.set_cons_zero, List.set_cons_succ]
          refine T_read rfl rfl (fun W hW => by go_simp; rfl) ?_
          try simp only [Act.put, List.setIfInBounds_toArray, List.set_cons_zero, List.set_cons_succ]
          refine T_read rfl rfl (fun W hW => by go_simp; rfl) ?_
          try simp only [Act.put, List.setIfInBounds_toArray, List.set_cons_zero, List.set_cons_succ]
          refine T_read rfl rfl (fun W hW => by go_simp; rfl) ?_
          try simp only [Act.put, List.setIfInBounds_toArray, List.set_cons_zero, List.set_cons_succ]
          refine T_read rfl rfl (fun W hW => by go_simp; rfl) ?_
          try simp only [Act.put, List.setIfInBounds_toArray, List.set_cons_zero, List.set_cons_succ]
          refine T_one ?_
          refine oneT_alloc_x k1 rfl rfl rfl zero70 ⟨(k1.alloc (V DS0) 70).below, (k1.alloc (V DS0) 70).row 1 rfl⟩ (fun k2 => ?_)
          try simp only [Act.put, List.setIfInBounds_toArray, List.set_cons_zero, List.set_cons_succ]
          refine T_one ?_
          refine oneT_store_x 0 k2 rfl rfl rfl rfl rfl rfl (aggV hlo) (size_VV hlo len_DS0) (V_one _) ⟨(k2.setRow 0 (V o) rfl).below, (k2.setRow 0 (V o) rfl).row 1 rfl⟩ (fun k3 => ?_)
          simp only [List.set] at k3
          try simp only [Act.put]
          refine T_read rfl rfl (fun W hW => by go_simp; rfl) ?_
          try simp only [Act.put, List.setIfInBounds_toArray, List.set_cons_zero, List.set_cons_succ]
          refine T_read rfl rfl (fun W hW => by go_simp; rfl) ?_
          try simp only [Act.put, List.setIfInBounds_toArray, List.set_cons_zero, List.set_cons_succ]
          refine T_read rfl rfl (fun W hW => by go_simp; rfl) ?_
          try simp only [Act.put, List.setIfInBounds_toArray, List.set_cons_zero, List.set_cons_succ]
          refine T_done ?_
          have HF := HS1.out.fresh (V DS0) 70 (V o)
          generalize World.setRow _ _ (V o) = wz at k3 HF ⊢
          generalize v1.heap.size = q at k3 ⊢
          exact ⟨rfl, q, a1, c1, rfl, k3, HF⟩
        · refine oneT_alloc_x hn rfl rfl rfl zero70 ⟨(hn.alloc (V DS0) 70).below, (hn.alloc (V DS0) 70).row 1 rfl⟩ (fun k2 => ?_)
          clear hn
          try simp only [Act.put, List.setIfInBounds_toArray, List.set_cons_zero, List.set_cons_succ]
          refine T_one ?_
          refine oneT_do rfl rfl (fun K hK => ?_)
          go_simp
          refine (CS.out _).mono ?_
          rintro x v1 ⟨⟨x1, rfl, hs1⟩, hb1⟩
          obtain ⟨a1, c1, rfl⟩ := hs1.shape
          have HG := Lib.hid ((k2.row 0 rfl).lt)
          have k3 := k2.call hb1
          have HS1 := Lib.hid hs1
          clear k2 hs1
          refine hK _ _ ⟨_, fun _ h => h, ⟨k3.below, k3.row 1 rfl⟩, ?_⟩
          clear hK K
          refine T_read rfl rfl (fun W hW => by go_simp; rfl) ?_
          try simp only [Act.put, List.setIfInBounds_toArray, List.set_cons_zero, List.set_cons_succ]
          refine T_read rfl rfl (fun W hW => by go_simp; rfl) ?_
          try simp only [Act.put, List.setIfInBounds_toArray, List.set_cons_zero, List.set_cons_succ]
          refine T_read rfl rfl (fun W hW => by go_simp; rfl) ?_
          try simp only [Act.put, List.setIfInBounds_toArray, List.set_cons_zero, List.set_cons_succ]
          refine T_read rfl rfl (fun W hW => by go_simp; rfl) ?_
          try simp only [Act.put, List.setIfInBounds_toArray, List.set_cons_zero, List.set_cons_succ]
          refine T_read rfl rfl (fun W hW => by go_simp; rfl) ?_
          try simp only [Act.put, List.setIfInBounds_toArray, List.set_cons_zero, List.set_cons_succ]
          refine T_one ?_
          refine oneT_store_x 0 k3 rfl rfl rfl rfl rfl rfl (aggV hlo) (size_VV hlo len_DS0) (V_one _) ⟨(k3.setRow 0 (V o) rfl).below, (k3.setRow 0 (V o) rfl).row 1 rfl⟩ (fun k4 => ?_)
          simp only [List.set] at k4
          try simp only [Act.put]
          refine T_read rfl rfl (fun W hW => by go_simp; rfl) ?_
          try simp only [Act.put, List.setIfInBounds_toArray, List.set_cons_zero, List.set_cons_succ]
          refine T_read rfl rfl (fun W hW => by go_simp; rfl) ?_
          try simp only [Act.put, List.setIfInBounds_toArray, List.set_cons_zero, List.set_cons_succ]
          refine T_read rfl rfl (fun W hW => by go_simp; rfl) ?_
          try simp only [Act.put, List.setIfInBounds_toArray, List.set_cons_zero, List.set_cons_succ]
          refine T_done ?_
          have HF := (HS1.out.setRow HG.out (V o)).src
          generalize World.setRow _ _ (V o) = wz at k4 HF ⊢
          generalize wn.heap.size = q at k4 ⊢
          exact ⟨rfl, q, a1, c1, rfl, k4, HF⟩
      clear hmr
      rintro q4 a4 c4 w4 ⟨hm4, hs4⟩
      have HS4 := Lib.hid hs4
      clear hs4
      by_cases he : e = 0
      · obtain ⟨h0o, hso⟩ := hlf he
        subst he
        rw [if_neg (by simp)] at hx
        cases f with
        | true =>
          rw [if_pos rfl] at hx
          have HX := Lib.hid hx
          clear hx hlf
          go_wp2_with (first
            | (refine wpList_append_o 0 hm4 rfl rfl HE5.out rfl rfl rfl HS4.out (vs_one _ _) (by simp only [length_vs]; omega) (by simp only [length_vs]; omega) ?_; intro ad7 c7 w7 hm7; simp only [List.set] at hm7; clear hm4 HS4))
          refine bodyPost_ret (results_tmp3 rfl _ _ _) rfl ?_
          rw [← HX.out]
          have hs := hm7.get 0 rfl
          rw [← vs_append] at hs
          refine ⟨⟨.slice ad7 (out.length + t.length) c7, by simp [length_vs], ?_⟩, hm7.below⟩
          simpa [length_vs] using hs
        | false =>
          rw [if_neg (by decide)] at hx
          have HX := Lib.hid hx
          clear hx hlf
          go_wp2_with (first
            | (refine wpList_append_o 0 hm4 rfl rfl HE5.out rfl rfl rfl HS4.out (vs_one _ _) (by simp only [length_vs]; omega) (by simp only [length_vs]; omega) ?_; intro ad7 c7 w7 hm7; simp only [List.set] at hm7; clear hm4 HS4)
            | (refine wpList_load_all rfl rfl rfl (hm7.row 0 rfl) (aggV hlo) ?_)
            | (refine wpList_store_o 1 hm7 rfl rfl rfl rfl rfl (aggV hlo) (size_VV hlo hlb) (V_one _) ?_; intro w8 hm8; simp only [List.set] at hm8; clear hm7))
          go_roundw
          case rel =>
            have hs := hm8.dropRow
            rw [← vs_append, length_vs, length_vs, ← List.length_append] at hs
            exact ⟨k + 1, o, out ++ t, ad7, c7, by omega, by go_num, by simp [length_vs], hvo, h0o, by rw [List.length_append]; omega, HX.out, hs⟩
          case measure => simp [intOf]; omega
      · rw [if_pos he] at hx
        have HX := Lib.hid hx
        have z1 : (e == 0) = false := by simpa using he
        clear hx hlf
        go_wp2
        refine bodyPost_ret (results_tmp3 rfl _ _ _) rfl ?_
        rw [← HX.out]
        exact ⟨⟨_, rfl, World.ownsRow_nil _ _ _ _⟩, hm4.below⟩
    · obtain rfl : l.length = k := by omega
      rw [List.drop_length] at hx
      have HX := Lib.hid hx
      clear hx
      go_wp2
      refine bodyPost_ret (results_tmp3 rfl _ _ _) rfl ?_
      rw [← HX.out]
      exact ⟨⟨_, rfl, World.ownsRow_nil _ _ _ _⟩, hmr.below⟩
theorem rdall_any (most : Int) (l : List Int) (v : Value) (w : World) (hv : In .i64 w v l) (hL : l.length ≤ 1000000) : Calls Try.prog 65 #[.int .i64 most, v] w (TPost w (dAll most l)) := by
  rw [dAll]
  by_cases h1 : most < 1
  · rw [if_neg (by omega)]; exact rdall_lo most v w h1
  by_cases h2 : 65536 < most
  · rw [if_neg (by omega)]; exact rdall_hi most v w h1 h2
  rw [if_pos (by omega)]
  exact rdall_in most l v w hv h1 h2 hL
end Go.Proofs.Ytaccjnekonmkoaa
