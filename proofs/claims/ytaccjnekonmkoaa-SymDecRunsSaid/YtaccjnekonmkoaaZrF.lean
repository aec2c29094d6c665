/-
  The walk of zerorun.Fold.
-/
import Derived.Test.YtaccjnekonmkoaaZrE
namespace Go.Proofs.Ytaccjnekonmkoaa
open Go Go.RowKit

/-- What Fold makes of the positions that are still to come, r zeros and the symbols 'out' being behind. -/
def fgo : List Int → Nat → List Int → List Int × Int
  | [], r, out => (out ++ dg r, 0)
  | p :: l, r, out => if p < 0 ∨ 255 < p then ([], 2) else if p = 0 then fgo l (r + 1) out else fgo l 0 (out ++ dg r ++ [p + 1])
def foldO (l : List Int) : List Int × Int := fgo l 0 []
theorem flush_any (w0 W0 : World) (Br Bl r : Nat) (hr : r < 2 ^ 31) (v : Value) (xs : List Int) (hm : Own w0 W0 [(Br, #[.int .i64 r]), (Bl, #[v])] [(v, 3, vs .i64 xs)]) (hx : xs.length ≤ 100000) :
    Calls Try.prog 69 #[.pointer (some ⟨Br, 0, none⟩), .pointer (some ⟨Bl, 0, none⟩)] W0 fun e W' => (∃ u, e = .returned u) ∧ ∃ v', Own w0 W' [(Br, #[.int .i64 0]), (Bl, #[v'])] [(v', 3, vs .i64 (xs ++ dg r))] :=
  callsIn_wide.1 (flush_in Fence.wide 3 trivial trivial trivial rfl (Nat.le_refl _) w0 W0 Br Bl r hr v xs hm hx)

theorem results_row2 {P : Program} {fn : Func} {p t : Tmp} {ty : TypeId} (h : fn.results = #[.cell p ty, .tmp t]) {tmps : Array Value} {w : World} {B : Nat} {v : Value} (hp : tmps.getD p undef = .pointer (some ⟨B, 0, none⟩)) (ht : OneTy P ty) (hb : w.cell? ⟨B, 0, none⟩ = some v) : (results fn tmps).run P w = .ok (.tuple #[v, tmps.getD t undef]) w := by
  have hp' : tmps[p]?.getD undef = .pointer (some ⟨B, 0, none⟩) := by simpa using hp
  have hl : (loadVar ty ⟨B, 0, none⟩).run P w = .ok v w := by
    simp only [loadVar, Sem.run_bind, Result.andThen_ok, ht.1, Bool.false_eq_true, if_false, run_load, hb]
  simp [results, h, hp', asAddr, hl]
theorem own_len0 {w : World} {base : Nat} {v : Value} {l : List Int} (h : w.ownsRow base 3 1 v (vs .i64 l).length (vs .i64 l)) : w.ownsRow base 3 1 v l.length (vs .i64 l) := by rw [length_vs] at h; exact h
theorem fgo_step (l : List Int) (k : Nat) (h : k < l.length) (r : Nat) (out : List Int) : fgo (l.drop k) r out = if gi l k < 0 ∨ 255 < gi l k then ([], 2) else if gi l k = 0 then fgo (l.drop (k + 1)) (r + 1) out else fgo (l.drop (k + 1)) 0 (out ++ dg r ++ [gi l k + 1]) := by
  rw [drop_cons0 l k h]; rfl

set_option maxRecDepth 100000 in
set_option maxHeartbeats 2000000 in
/-- **zerorun.Fold**, at every list. -/
theorem fold_any (v : Value) (l : List Int) (w : World) (hv : In .i64 w v l) (hl : l.length ≤ 3000) : Calls Try.prog 41 #[v] w (ListPost w (foldO l).1 (foldO l).2) := by
  obtain ⟨ad, cp, rfl, hc⟩ := hv
  obtain ⟨i3, hE⟩ := el39
  have HE := Lib.hid hE
  have HC := Lib.hid hc
  clear hE hc
  go_enter Try.func41, Try.ntmps41
  go_wp2_with fail
  have hm0 := (((Own.nil w).alloc #[.slice none 0 0] 39).alloc #[.int .i64 0] 3).addNil 3
  rw [World.size_alloc] at hm0
  go_loopw [11] (fun u wr => ∃ (k r : Nat) (out : List Int) (v : Value), k ≤ l.length ∧ u = .int .i64 k ∧ r ≤ k ∧ out.length ≤ 32 * k ∧ foldO l = fgo (l.drop k) r out ∧ Own w wr [(w.heap.size + 1, #[.int .i64 r]), (w.heap.size, #[v])] [(v, 3, vs .i64 out)]) (fun u _ => l.length - (intOf u).toNat)
  case atStart => exact ⟨0, 0, [], _, by omega, rfl, by omega, by simp, rfl, hm0⟩
  case round =>
    obtain ⟨k, r, out, v, hk, rfl, hrk, hout, hx, hmr⟩ := hrel
    clear hm0
    obtain ⟨hcr, hfr⟩ := (hmr.row 0 rfl).boxed
    obtain ⟨hcl, hfl⟩ := (hmr.row 1 rfl).boxed
    by_cases hlt : k < l.length
    · obtain ⟨A, rfl, hA0⟩ := HC.out k hlt
      have hA : wr.cell? (A.add k) = some (.int .i64 (gi l k)) := (hmr.below.cell (block_lt_of_cell hA0)).trans hA0
      rw [fgo_step l k hlt] at hx
      clear hA0
      generalize gi l k = p at *
      by_cases hlo : p < 0
      · rw [if_pos (.inl hlo)] at hx
        have HX := Lib.hid hx
        clear hx
        go_wp2_with (first
          | (refine wpList_run rfl (exec_indexAddr_sl rfl HE.out rfl rfl rfl hlt) ?_)
          | (refine wpList_run rfl (exec_loadaddr rfl rfl one3 hA) ?_))
        have hm2 := hmr.setCell 1 0 (.slice none 0 0) rfl
        refine bodyPost_ret (results_row2 rfl rfl one39 (hm2.row 1 rfl).boxed.1) rfl ?_
        exact ⟨⟨_, by rw [HX.out]; rfl, by rw [HX.out]; exact World.ownsRow_nil _ _ _ _⟩, hm2.below⟩
      · by_cases hhi : 255 < p
        · rw [if_pos (.inr hhi)] at hx
          have HX := Lib.hid hx
          clear hx
          go_wp2_with (first
            | (refine wpList_run rfl (exec_indexAddr_sl rfl HE.out rfl rfl rfl hlt) ?_)
            | (refine wpList_run rfl (exec_loadaddr rfl rfl one3 hA) ?_))
          have hm2 := hmr.setCell 1 0 (.slice none 0 0) rfl
          refine bodyPost_ret (results_row2 rfl rfl one39 (hm2.row 1 rfl).boxed.1) rfl ?_
          exact ⟨⟨_, by rw [HX.out]; rfl, by rw [HX.out]; exact World.ownsRow_nil _ _ _ _⟩, hm2.below⟩
        · rw [if_neg (fun h => h.elim hlo hhi)] at hx
          by_cases hp0 : p = 0
          · subst hp0
            rw [if_pos rfl] at hx
            have HX := Lib.hid hx
            clear hx
            go_wp2_with (first
              | (refine wpList_run rfl (exec_indexAddr_sl rfl HE.out rfl rfl rfl hlt) ?_)
              | (refine wpList_run rfl (exec_loadaddr rfl rfl one3 hA) ?_))
            go_roundw
            case rel => exact ⟨k + 1, r + 1, out, v, by omega, by go_num, by omega, by omega, HX.out, hmr.setCell 0 0 (.int .i64 ((r + 1 : Nat) : Int)) rfl⟩
            case measure => simp [intOf]; omega
          · rw [if_neg hp0] at hx
            have HX := Lib.hid hx
            clear hx
            have hp1 : (p == 0) = false := by simpa using hp0
            have hp2 : decide (p = 0) = false := decide_eq_false hp0
            have hw : IntKind.i64.wrap (p + 1) = p + 1 := IntWalk.i64_in _ (by omega)
            have hd := len_dg 31 r (by omega)
            have hle : (vs .i64 (out ++ dg r)).length ≤ 100031 := by rw [length_vs, List.length_append]; omega
            go_wp2_with (first
              | (refine wpList_run rfl (exec_indexAddr_sl rfl HE.out rfl rfl rfl hlt) ?_)
              | (refine wpList_run rfl (exec_loadaddr rfl rfl one3 hA) ?_)
              | (go_at_call 69; have _t := hmr; refine (flush_any w wr _ _ r (by omega) v out hmr (by omega)).mono ?_; rintro e w2 ⟨⟨u2, rfl⟩, v2, hm2⟩; obtain ⟨hc2, hf2⟩ := (hm2.row 1 rfl).boxed; clear hmr)
              | (refine wpList_build1_o (v := .int .i64 (p + 1)) hm2 rfl rfl HE.out rfl rfl ?_; intro w3 g3 hm3; clear hm2)
              | (refine wpList_append_o 0 hm3 rfl rfl HE.out rfl rfl rfl (Src.one (hm3.row 0 rfl)) (one_list _ rfl) (by simp only [List.length_cons, List.length_nil]; omega) (by simp only [List.length_cons, List.length_nil]; omega) ?_; intro ad4 c4 w4 hm4; simp only [List.set] at hm4; obtain ⟨hc4, hf4⟩ := (hm4.row 2 rfl).boxed; clear hm3))
            go_roundw
            case rel =>
              refine ⟨k + 1, 0, out ++ dg r ++ [p + 1], .slice ad4 ((vs .i64 (out ++ dg r)).length + 1) c4, by omega, by go_num, by omega, by simp only [List.length_append, List.length_cons, List.length_nil]; omega, HX.out, ?_⟩
              have h := (hm4.setCell 2 0 (.slice ad4 ((vs .i64 (out ++ dg r)).length + 1) c4) rfl).dropRow
              have e : vs .i64 (out ++ dg r) ++ [.int .i64 (p + 1)] = vs .i64 (out ++ dg r ++ [p + 1]) := by simp [vs]
              rw [← e]
              simpa using h
            case measure => simp [intOf]; omega
    · obtain rfl : k = l.length := by omega
      have HX : Hid (foldO l = (out ++ dg r, 0)) := by show foldO l = _; rw [hx, List.drop_length]; rfl
      clear hx
      go_wp2_with (first
        | (go_at_call 69; have _t := hmr; refine (flush_any w wr _ _ r (by omega) v out hmr (by omega)).mono ?_; rintro e w2 ⟨⟨u2, rfl⟩, v2, hm2⟩; obtain ⟨hc2, hf2⟩ := (hm2.row 1 rfl).boxed; have ho2 : w2.ownsRow w.heap.size 3 1 v2 (vs .i64 (out ++ dg r)).length (vs .i64 (out ++ dg r)) := hm2.get 0 rfl; obtain ⟨ad2, c2, rfl⟩ := owns_shape0 ho2; clear hmr))
      have hm3 := hm2.setCell 1 0 (.slice ad2 (vs .i64 (out ++ dg r)).length c2) rfl
      refine bodyPost_ret (results_row2 rfl rfl one39 (hm3.row 1 rfl).boxed.1) rfl ?_
      exact ⟨⟨_, by rw [HX.out]; rfl, by rw [HX.out]; exact own_len0 (hm3.get 0 rfl)⟩, hm3.below⟩
end Go.Proofs.Ytaccjnekonmkoaa
