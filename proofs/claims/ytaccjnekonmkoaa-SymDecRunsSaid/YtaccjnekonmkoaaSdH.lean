/-
  The walk of symdec.All.
-/
import Derived.Test.YtaccjnekonmkoaaSdG
namespace Go.Proofs.Ytaccjnekonmkoaa
open Go Go.RowKit

/-- Decoding from a state on: the bytes so far, the symbols read so far. -/
def dgo : DS → List Int → List Int → Nat → List Int × Nat × Int
  | _, [], _, _ => ([], 0, 160)
  | b, s :: r, out, n => if (dStp b s).2.2.2 ≠ 0 then ([], 0, (dStp b s).2.2.2) else if (dStp b s).2.2.1 = true then (out ++ (dStp b s).2.1, n + 1, 0) else dgo (dStp b s).1 r (out ++ (dStp b s).2.1) (n + 1)
theorem dgo_step (l : List Int) (k : Nat) (h : k < l.length) (b : DS) (out : List Int) (n : Nat) : dgo b (l.drop k) out n = if (dStp b (gi l k)).2.2.2 ≠ 0 then ([], 0, (dStp b (gi l k)).2.2.2) else if (dStp b (gi l k)).2.2.1 = true then (out ++ (dStp b (gi l k)).2.1, n + 1, 0) else dgo (dStp b (gi l k)).1 (l.drop (k + 1)) (out ++ (dStp b (gi l k)).2.1) (n + 1) := by
  rw [drop_cons0 l k h]; rfl
def dAll (most : Int) (l : List Int) : List Int × Nat × Int := if 1 ≤ most ∧ most ≤ 65536 then dgo (dNew most) l [] 0 else ([], 0, 2)
def TPost (w : World) (o : List Int × Nat × Int) (x : Ending) (w' : World) : Prop := (∃ v, x = .returned (.tuple #[v, .int .i64 o.2.1, .int .i64 o.2.2]) ∧ w'.ownsRow w.heap.size 5 1 v o.1.length (vs .u8 o.1)) ∧ Below w.heap.size w w'
/-- What is read outlives a new block and a store into it. -/
theorem Src.fresh {w : World} {v : Value} {xs : List Value} (h : Src w v xs) (cs : Array Value) (t : TypeId) (us : Array Value) : Src ((w.alloc (.cells cs t)).setRow w.heap.size us) v xs := by
  rcases h with h | ⟨ad, c, h0, hc⟩
  · exact .inl h
  · refine .inr ⟨ad, c, h0, fun j u hj => ?_⟩
    have h1 := hc j u hj
    have hlt := block_lt_of_cell h1
    have h2 : (w.alloc (.cells cs t)).cell? (ad.add j) = w.cell? (ad.add j) := Below.cell ((Below.refl w.heap.size w).alloc (Nat.le_refl _) _) hlt
    rw [← h1, ← h2]
    exact World.cell?_of_block (setRow_other _ _ _ us (by omega))
theorem vl_dstep (b : DS) (s : Int) (h : Vl b.l) : Vl (dstep b s).1.l := by
  rw [dstep]
  split
  · exact h
  · split
    · exact h
    · split
      · exact h
      · exact h.takeL _
theorem vl_dStp (b : DS) (s : Int) (h : Vl b.l) : Vl (dStp b s).1.l := by
  rw [dStp]
  split
  · split
    · exact vl_dstep b s h
    · exact h
  · exact h
theorem dStp_left (b : DS) (s : Int) (he : (dStp b s).2.2.2 = 0) : 0 ≤ (dStp b s).1.left ∧ ((dStp b s).2.1.length : Int) + (dStp b s).1.left = b.left := by
  rw [dStp] at he ⊢
  split at he
  · rename_i hk
    obtain ⟨a1, a2, a3, a4, a5, a6, _⟩ := dOk_nums hk.1
    rw [if_pos hk]
    split at he
    · rename_i hf
      rw [if_pos hf]
      have hr := len_rep a3
      revert hf
      rw [dstep]
      split
      · intro _; exact ⟨a1, by simp⟩
      · split
        · intro hf
          have := of_decide_eq_true hf
          exact ⟨Int.le_refl _, by show (b.rep.length : Int) + 0 = b.left; omega⟩
        · split
          · intro hf; cases hf
          · intro _
            refine ⟨by show 0 ≤ b.left - (b.run + 1); omega, ?_⟩
            show ((b.rep ++ [takeC b.l (s - 1)]).length : Int) + (b.left - (b.run + 1)) = b.left
            rw [List.length_append, List.length_singleton]
            omega
    · cases he
  · cases he
theorem dNew_in {most : Int} (h1 : ¬ most < 1) (h2 : ¬ 65536 < most) : dNew most = ⟨new, most, 0, 0, false⟩ := by rw [dNew, if_pos (by omega)]
set_option maxRecDepth 100000 in
theorem dall_lo (most : Int) (v : Value) (w : World) (h : most < 1) : Calls Try.prog 64 #[.int .i64 most, v] w (TPost w ([], 0, 2)) := by
  have q1 : decide (most < 1) = true := decide_eq_true h
  go_enter Try.func64, Try.ntmps64
  go_wp2
  refine bodyPost_ret (results_tmp3 rfl _ _ _) rfl ?_
  exact ⟨⟨_, rfl, World.ownsRow_nil _ _ _ _⟩, Below.refl _ _⟩
set_option maxRecDepth 100000 in
theorem dall_hi (most : Int) (v : Value) (w : World) (h0 : ¬ most < 1) (h : 65536 < most) : Calls Try.prog 64 #[.int .i64 most, v] w (TPost w ([], 0, 2)) := by
  have q1 : decide (most < 1) = false := decide_eq_false h0
  have q2 : decide (65536 < most) = true := decide_eq_true h
  go_enter Try.func64, Try.ntmps64
  go_wp2
  refine bodyPost_ret (results_tmp3 rfl _ _ _) rfl ?_
  exact ⟨⟨_, rfl, World.ownsRow_nil _ _ _ _⟩, Below.refl _ _⟩
theorem wpList_alloc_x {P : Program} {ops : Array Oper} {rest : List Oper} {o : Oper} {a : Act} {w0 w : World} {Q : Exit → Act → World → Prop} {rs : List (Nat × Array Value)} {ss : List Sl} (hm : Own w0 w rs ss) (hgd : Region.wanted o (yielded ops a.tmps) = true) {ty : TypeId} (ho : o.op = .alloc ty) {cs : Array Value} (hz : ∀ w, (zeroValue ty).run P w = .ok (.agg cs) w)
    (h : Own w0 (w.alloc (.cells cs ty)) ((w.heap.size, cs) :: rs) ss → wpList P ops Q rest (a.put o.dst (.pointer (some ⟨w.heap.size, 0, none⟩))) (w.alloc (.cells cs ty))) : wpList P ops Q (o :: rest) a w := by
  have hrun : (execOp a.eval o).run P w = .ok (.value (.pointer (some ⟨w.heap.size, 0, none⟩))) (w.alloc (.cells cs ty)) := by
    unfold execOp
    simp only [ho, Instr.alloc, newVar, newRow, Value.cells, Sem.run_bind, Sem.run_pure, hz, Result.andThen_ok]
    rfl
  exact wpList_run hgd hrun (h (hm.alloc _ ty))
set_option maxRecDepth 100000 in
set_option maxHeartbeats 4000000 in
theorem dall_in (most : Int) (l : List Int) (v : Value) (w : World) (hv : In .i64 w v l) (h1 : ¬ most < 1) (h2 : ¬ 65536 < most) (hL : l.length ≤ 1000000) : Calls Try.prog 64 #[.int .i64 most, v] w (TPost w (dgo (dNew most) l [] 0)) := by
  obtain ⟨ad, cp, rfl, hc⟩ := hv
  obtain ⟨i3, hE⟩ := el39
  obtain ⟨i5, hE5⟩ := el24
  have HE := Lib.hid hE
  have HE5 := Lib.hid hE5
  have HC := Lib.hid hc
  have CN := Lib.hid (dnew_any most)
  have hvN : Vl (dNew most).l := by rw [dNew_in h1 h2]; exact vl_new
  have hlN : (dNew most).left = most := by rw [dNew_in h1 h2]
  have q1 : decide (most < 1) = false := decide_eq_false h1
  have q2 : decide (65536 < most) = false := decide_eq_false h2
  generalize hR : dgo (dNew most) l [] 0 = R
  have hx0 : dgo (dNew most) (l.drop 0) [] 0 = R := hR
  clear hE hE5 hc hR
  generalize dNew most = N at *
  have hlen := hvN.len
  go_enter Try.func64, Try.ntmps64
  have hm := Own.nil w
  go_wp2_with (first
    | (go_at_call 62; have _t := hm; refine (CN.out _).mono ?_; rintro e w1 ⟨rfl, hb1⟩; have hm1 := hm.call hb1; clear hm)
    | (refine wpList_alloc_o hm1 rfl rfl zero70 ?_; intro w2 g hm2; clear hm1)
    | (refine wpList_store_o 0 hm2 rfl rfl rfl rfl rfl (aggV hlen) (size_VV hlen len_DS0) (V_one _) ?_; intro w3 hm3; simp only [List.set] at hm3; clear hm2))
  have hm4 := hm3.addNil 5
  clear hm3
  go_loopw [4, 24] (fun o u wr => ∃ (k : Nat) (b : DS) (out : List Int) (ao : Option Addr) (co : Nat), k ≤ l.length ∧ u = .int .i64 k ∧ o = .slice ao out.length co ∧ Vl b.l ∧ 0 ≤ b.left ∧ (out.length : Int) + b.left = most ∧ dgo b (l.drop k) out k = R ∧ Own w wr [(g, V b)] [(.slice ao out.length co, 5, vs .u8 out)]) (fun _ u _ => l.length - (intOf u).toNat)
  case atStart => exact ⟨0, N, [], none, 0, by omega, rfl, rfl, hvN, by omega, by simp; omega, hx0, hm4⟩
  case round =>
    obtain ⟨k, b, out, ao, co, hk, rfl, rfl, hvb, h0b, hsum, hx, hmr⟩ := hrel
    clear hm4 hx0 hvN hlN hlen
    have hlb := hvb.len
    by_cases hlt : k < l.length
    · obtain ⟨A, rfl, hA0⟩ := HC.out k hlt
      have HA : Hid (∀ W, Below w.heap.size w W → W.cell? (A.add k) = some (.int .i64 (gi l k))) := Lib.hid (fun W hW => (hW.cell (block_lt_of_cell hA0)).trans hA0)
      rw [dgo_step l k hlt] at hx
      clear hA0
      generalize gi l k = s at *
      have CS := Lib.hid (fun w => dstep_any b s w hlb hvb.bytes)
      have hvo := vl_dStp b s hvb
      have hlf := dStp_left b s
      generalize dStp b s = D at *
      obtain ⟨o, t, f, e⟩ := D
      have hlo := hvo.len
      dsimp only at *
      by_cases he : e = 0
      · obtain ⟨h0o, hso⟩ := hlf he
        subst he
        rw [if_neg (by simp)] at hx
        cases f with
        | true =>
          rw [if_pos rfl] at hx
          have HX := Lib.hid hx
          clear hx hlf
          go_wp2_with (first
            | (refine wpList_run rfl (exec_indexAddr_sl rfl HE.out rfl rfl rfl hlt) ?_)
            | (refine wpList_run rfl (exec_loadaddr rfl rfl one3 (HA.out _ hmr.below)) ?_)
            | (refine wpList_load_all rfl rfl rfl (hmr.row 0 rfl) (aggV hlb) ?_)
            | (go_at_call 58; have _t := hmr; refine (CS.out _).mono ?_; rintro e w4 ⟨⟨v4, rfl, hs4⟩, hb4⟩; have hm4 := hmr.call hb4; have HS4 := Lib.hid hs4.src; clear hmr hs4)
            | (have _t := hm4; refine wpList_alloc_x hm4 rfl rfl zero70 ?_; intro hm5)
            | (have _t := hm5; refine wpList_store_x 0 hm5 rfl rfl rfl rfl rfl (aggV hlo) (size_VV hlo len_DS0) (V_one _) ?_; intro hm6; simp only [List.set] at hm6; have HS6 := Lib.hid (HS4.out.fresh (V DS0) 70 (V o)); generalize World.setRow _ _ (V o) = w6 at hm6 HS6 ⊢; clear hm4 hm5 HS4)
            | (refine wpList_append_o 0 hm6 rfl rfl HE5.out rfl rfl rfl HS6.out (vs_one _ _) (by simp only [length_vs]; omega) (by simp only [length_vs]; omega) ?_; intro ad7 c7 w7 hm7; simp only [List.set] at hm7; clear hm6 HS6))
          refine bodyPost_ret (results_tmp3 rfl _ _ _) rfl ?_
          rw [← HX.out]
          have hs := hm7.get 0 rfl
          rw [← vs_append] at hs
          refine ⟨⟨.slice ad7 (out.length + t.length) c7, by simp [length_vs], ?_⟩, hm7.below⟩
          simpa [length_vs] using hs
        | false =>
          rw [if_neg (by decide)] at hx
          have HX := Lib.hid hx
          clear hx hlf
          go_wp2_with (first
            | (refine wpList_run rfl (exec_indexAddr_sl rfl HE.out rfl rfl rfl hlt) ?_)
            | (refine wpList_run rfl (exec_loadaddr rfl rfl one3 (HA.out _ hmr.below)) ?_)
            | (refine wpList_load_all rfl rfl rfl (hmr.row 0 rfl) (aggV hlb) ?_)
            | (go_at_call 58; have _t := hmr; refine (CS.out _).mono ?_; rintro e w4 ⟨⟨v4, rfl, hs4⟩, hb4⟩; have hm4 := hmr.call hb4; have HS4 := Lib.hid hs4.src; clear hmr hs4)
            | (have _t := hm4; refine wpList_alloc_x hm4 rfl rfl zero70 ?_; intro hm5)
            | (have _t := hm5; refine wpList_store_x 0 hm5 rfl rfl rfl rfl rfl (aggV hlo) (size_VV hlo len_DS0) (V_one _) ?_; intro hm6; simp only [List.set] at hm6; have HS6 := Lib.hid (HS4.out.fresh (V DS0) 70 (V o)); generalize World.setRow _ _ (V o) = w6 at hm6 HS6 ⊢; clear hm4 hm5 HS4)
            | (refine wpList_append_o 0 hm6 rfl rfl HE5.out rfl rfl rfl HS6.out (vs_one _ _) (by simp only [length_vs]; omega) (by simp only [length_vs]; omega) ?_; intro ad7 c7 w7 hm7; simp only [List.set] at hm7; clear hm6 HS6)
            | (refine wpList_load_all rfl rfl rfl (hm7.row 0 rfl) (aggV hlo) ?_)
            | (refine wpList_store_o 1 hm7 rfl rfl rfl rfl rfl (aggV hlo) (size_VV hlo hlb) (V_one _) ?_; intro w8 hm8; simp only [List.set] at hm8; clear hm7))
          go_roundw
          case rel =>
            have hs := hm8.dropRow
            rw [← vs_append, length_vs, length_vs, ← List.length_append] at hs
            exact ⟨k + 1, o, out ++ t, ad7, c7, by omega, by go_num, by simp [length_vs], hvo, h0o, by rw [List.length_append]; omega, HX.out, hs⟩
          case measure => simp [intOf]; omega
      · rw [if_pos he] at hx
        have HX := Lib.hid hx
        have z1 : (e == 0) = false := by simpa using he
        clear hx hlf
        go_wp2_with (first
          | (refine wpList_run rfl (exec_indexAddr_sl rfl HE.out rfl rfl rfl hlt) ?_)
          | (refine wpList_run rfl (exec_loadaddr rfl rfl one3 (HA.out _ hmr.below)) ?_)
          | (refine wpList_load_all rfl rfl rfl (hmr.row 0 rfl) (aggV hlb) ?_)
          | (go_at_call 58; have _t := hmr; refine (CS.out _).mono ?_; rintro e w4 ⟨⟨v4, rfl, hs4⟩, hb4⟩; have hm4 := hmr.call hb4; have HS4 := Lib.hid hs4.src; clear hmr hs4)
          | (have _t := hm4; refine wpList_alloc_x hm4 rfl rfl zero70 ?_; intro hm5)
          | (have _t := hm5; refine wpList_store_x 0 hm5 rfl rfl rfl rfl rfl (aggV hlo) (size_VV hlo len_DS0) (V_one _) ?_; intro hm6; simp only [List.set] at hm6; have HS6 := Lib.hid (HS4.out.fresh (V DS0) 70 (V o)); generalize World.setRow _ _ (V o) = w6 at hm6 HS6 ⊢; clear hm4 hm5 HS4))
        refine bodyPost_ret (results_tmp3 rfl _ _ _) rfl ?_
        rw [← HX.out]
        exact ⟨⟨_, rfl, World.ownsRow_nil _ _ _ _⟩, hm6.below⟩
    · obtain rfl : l.length = k := by omega
      rw [List.drop_length] at hx
      have HX := Lib.hid hx
      clear hx
      go_wp2
      refine bodyPost_ret (results_tmp3 rfl _ _ _) rfl ?_
      rw [← HX.out]
      exact ⟨⟨_, rfl, World.ownsRow_nil _ _ _ _⟩, hmr.below⟩
theorem dall_any (most : Int) (l : List Int) (v : Value) (w : World) (hv : In .i64 w v l) (hL : l.length ≤ 1000000) : Calls Try.prog 64 #[.int .i64 most, v] w (TPost w (dAll most l)) := by
  rw [dAll]
  by_cases h1 : most < 1
  · rw [if_neg (by omega)]; exact dall_lo most v w h1
  by_cases h2 : 65536 < most
  · rw [if_neg (by omega)]; exact dall_hi most v w h1 h2
  rw [if_pos (by omega)]
  exact dall_in most l v w hv h1 h2 hL
end Go.Proofs.Ytaccjnekonmkoaa
