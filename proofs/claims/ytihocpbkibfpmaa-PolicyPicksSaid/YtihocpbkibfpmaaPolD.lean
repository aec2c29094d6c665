/-
  The walks of policy.Need, Least, Distance and Bound, of their references, and of the comparison of two lists.
-/
import Derived.Test.YtihocpbkibfpmaaPolC
namespace Go.Proofs.Ytihocpbkibfpmaa
open Go Go.RowKit

theorem owns_shape {w : World} {base : Nat} {e : TypeId} {v : Value} {n : Nat} {xs : List Value} (h : w.ownsRow base e 1 v n xs) : ∃ a c, v = .slice a n c := by
  rcases h.2 with ⟨rfl, h0⟩ | ⟨g, cap, cur, rfl, _⟩
  · exact ⟨none, 0, by rw [h0]⟩
  · exact ⟨_, _, rfl⟩
theorem Src.at {w : World} {A : Addr} {n c j : Nat} {xs : List Value} {u : Value} (h : Src w (.slice (some A) n c) xs) (hj : xs[j]? = some u) : w.cell? (A.add j) = some u := by
  rcases h with ⟨h, _⟩ | ⟨A', c', h, hc⟩
  · cases h
  · cases h
    exact hc j u hj
theorem Src.some {w : World} {a : Option Addr} {n c : Nat} {l : List Int} (h : Src w (.slice a n c) (vs .i64 l)) {j : Nat} (hj : j < l.length) : ∃ A, a = some A := by
  rcases h with ⟨_, h0⟩ | ⟨A, c, h, _⟩
  · have := congrArg List.length h0
    rw [length_vs] at this
    simp only [List.length_nil] at this
    omega
  · injection h with h1
    exact ⟨A, h1⟩
theorem one3 : OneTy Try.prog 3 := ⟨fun w => by kernel_rfl, by kernel_rfl⟩
def psum (l : List Int) (k : Nat) : Int := (l.take k).sum
theorem psum_step (l : List Int) (k : Nat) (h : k < l.length) : psum l (k + 1) = psum l k + gi l k := by
  rw [psum, List.take_succ_eq_append_getElem h, List.sum_append]
  simp [psum, gi, List.getD_eq_getElem?_getD, List.getElem?_eq_getElem h]
theorem psum_all (l : List Int) : psum l l.length = l.sum := by rw [psum, List.take_length]
def Sane (l : List Int) : Prop := l.length ≤ 3 ∧ ∀ x ∈ l, 0 ≤ x ∧ x ≤ 16777216
theorem gi_sane {l : List Int} (h : Sane l) (k : Nat) (hk : k < l.length) : 0 ≤ gi l k ∧ gi l k ≤ 16777216 := by
  have : gi l k = l[k] := by simp [gi, List.getD_eq_getElem?_getD, List.getElem?_eq_getElem hk]
  rw [this]
  exact h.2 _ (List.getElem_mem hk)
theorem psum_sane {l : List Int} (h : Sane l) : ∀ k, k ≤ l.length → 0 ≤ psum l k ∧ psum l k ≤ 16777216 * k
  | 0, _ => by simp [psum]
  | k + 1, hk => by
    have := psum_sane h k (by omega)
    have := gi_sane h k (by omega)
    rw [psum_step l k (by omega)]
    omega
theorem lay_sane (n s m : Int) : Sane (lay n s m) := by
  unfold lay
  split
  · rename_i h
    have h1 := h.1
    have h2 := h.2.1
    unfold layE layD rowsOf
    repeat' split
    all_goals (refine ⟨by simp, fun x hx => ?_⟩; simp only [List.mem_cons, List.not_mem_nil, or_false] at hx)
    all_goals omega
  · exact ⟨by simp, fun x hx => absurd hx (by simp)⟩
def need (n s m : Int) : Int := (lay n s m).sum
def NeedPost (w : World) (v e : Int) (x : Ending) (w' : World) : Prop := x = .returned (.tuple #[.int .i64 v, .int .i64 e]) ∧ Below w.heap.size w w'

set_option maxRecDepth 100000 in
set_option maxHeartbeats 1000000 in
/-- **policy.Need** -/
theorem need_any (n s m : Int) (w : World) (hs : (Lit.int .u8 s).wf = true) (hm : (Lit.int .u8 m).wf = true) : Calls Try.prog 9 #[.int .i64 n, .int .u8 s, .int .u8 m] w (NeedPost w (need n s m) (er n s m)) := by
  have HS := Lib.hid hs
  have HM := Lib.hid hm
  have hsane := lay_sane n s m
  have HL : Hid (∀ w, Calls Try.prog 7 #[.int .i64 n, .int .u8 s, .int .u8 m] w (LayPost w (lay n s m) (er n s m))) := fun w => layout_any n s m w hs hm
  have HN : Hid (need n s m = psum (lay n s m) (lay n s m).length) := (psum_all _).symm
  clear hs hm
  generalize need n s m = N at *
  generalize lay n s m = l at *
  generalize er n s m = e at *
  obtain ⟨i3, hE⟩ := el22
  have HE := Lib.hid hE
  have HSane := Lib.hid hsane
  have hl3 := hsane.1
  clear hE hsane
  go_enter Try.func9, Try.ntmps9
  have hm := Own.nil w
  go_wp2_with (first
    | (go_at_call 7; refine (HL.out _).mono ?_; rintro e w1 ⟨⟨r1, rfl, ho1⟩, hb1⟩; obtain ⟨a1, c1, rfl⟩ := owns_shape ho1; have hm1 := hm.callSl hb1 (len_own ho1); clear hm))
  go_loopw [6, 20] (fun v u wr => ∃ k : Nat, k ≤ l.length ∧ v = .int .i64 (psum l k) ∧ u = .int .i64 k ∧ Own w wr [] [(.slice a1 l.length c1, 3, vs .i64 l)]) (fun _ u _ => l.length - (intOf u).toNat)
  case atStart => exact ⟨0, by omega, rfl, rfl, hm1⟩
  case round =>
    obtain ⟨k, hk, rfl, rfl, hmr⟩ := hrel
    clear hm1
    by_cases hlt : k < l.length
    · obtain ⟨A, rfl⟩ := Src.some (Src.of_owned (hmr.get 0 rfl)) hlt
      have hcell := (Src.of_owned (hmr.get 0 rfl)).at (get_vs .i64 l k hlt)
      have hst := psum_step l k hlt
      have hb1 := psum_sane HSane.out k hk
      have hb2 := gi_sane HSane.out k hlt
      have hw : IntKind.i64.wrap (psum l k + gi l k) = psum l k + gi l k := IntWalk.i64_in _ (by omega)
      generalize gi l k = x at *
      have HST := Lib.hid hst
      clear hst hb1 hb2
      go_wp2_with (first
        | (refine wpList_run rfl (exec_indexAddr_sl rfl HE.out rfl rfl rfl hlt) ?_)
        | (refine wpList_run rfl (exec_loadaddr rfl rfl one3 hcell) ?_))
      go_roundw
      case rel => exact ⟨k + 1, by omega, by rw [HST.out], by go_num, hmr⟩
      case measure => simp [intOf]; omega
    · obtain rfl : k = l.length := by omega
      go_wp2_with fail
      go_ret2
      exact ⟨by rw [HN.out]; rfl, hmr.below⟩
set_option maxRecDepth 100000 in
set_option maxHeartbeats 1000000 in
/-- The reference's Need. -/
theorem rneed_any (n s m : Int) (w : World) (hm : (Lit.int .u8 m).wf = true) : Calls Try.prog 10 #[.int .i64 n, .int .u8 s, .int .u8 m] w (NeedPost w (need n s m) (er n s m)) := by
  have hsane := lay_sane n s m
  have HL : Hid (∀ w, Calls Try.prog 8 #[.int .i64 n, .int .u8 s, .int .u8 m] w (LayPost w (lay n s m) (er n s m))) := fun w => rlayout_any n s m w hm
  have HN : Hid (need n s m = psum (lay n s m) (lay n s m).length) := (psum_all _).symm
  clear hm
  generalize need n s m = N at *
  generalize lay n s m = l at *
  generalize er n s m = e at *
  obtain ⟨i3, hE⟩ := el22
  have HE := Lib.hid hE
  have HSane := Lib.hid hsane
  have hl3 := hsane.1
  clear hE hsane
  go_enter Try.func10, Try.ntmps10
  have hm := Own.nil w
  go_wp2_with (first
    | (go_at_call 8; refine (HL.out _).mono ?_; rintro e w1 ⟨⟨r1, rfl, ho1⟩, hb1⟩; obtain ⟨a1, c1, rfl⟩ := owns_shape ho1; have hm1 := hm.callSl hb1 (len_own ho1); clear hm))
  go_loopw [10, 11] (fun v u wr => ∃ k : Nat, k ≤ l.length ∧ v = .int .i64 (psum l k) ∧ u = .int .i64 k ∧ Own w wr [] [(.slice a1 l.length c1, 3, vs .i64 l)]) (fun _ u _ => l.length - (intOf u).toNat)
  case atStart => exact ⟨0, by omega, rfl, rfl, hm1⟩
  case round =>
    obtain ⟨k, hk, rfl, rfl, hmr⟩ := hrel
    clear hm1
    by_cases hlt : k < l.length
    · obtain ⟨A, rfl⟩ := Src.some (Src.of_owned (hmr.get 0 rfl)) hlt
      have hcell := (Src.of_owned (hmr.get 0 rfl)).at (get_vs .i64 l k hlt)
      have hst := psum_step l k hlt
      have hb1 := psum_sane HSane.out k hk
      have hb2 := gi_sane HSane.out k hlt
      have hw : IntKind.i64.wrap (psum l k + gi l k) = psum l k + gi l k := IntWalk.i64_in _ (by omega)
      generalize gi l k = x at *
      have HST := Lib.hid hst
      clear hst hb1 hb2
      go_wp2_with (first
        | (refine wpList_run rfl (exec_indexAddr_sl rfl HE.out rfl rfl rfl hlt) ?_)
        | (refine wpList_run rfl (exec_loadaddr rfl rfl one3 hcell) ?_))
      go_roundw
      case rel => exact ⟨k + 1, by omega, by rw [HST.out], by go_num, hmr⟩
      case measure => simp [intOf]; omega
    · obtain rfl : k = l.length := by omega
      go_wp2_with fail
      go_ret2
      exact ⟨by rw [HN.out]; rfl, hmr.below⟩
end Go.Proofs.Ytihocpbkibfpmaa
