/-
  The walks of policy.Layout (with its closures) and of the reference's Layout.
-/
import Derived.Test.YtihocpbkibfpmaaLits
import Derived.Lib.Hide
namespace Go.Proofs.Ytihocpbkibfpmaa
open Go Go.RowKit

def argOk (n s m : Int) : Prop := 1 ≤ n ∧ n ≤ 65536 ∧ (s = 1 ∨ s = 2) ∧ (m = 1 ∨ m = 2 ∨ m = 3)
instance (n s m : Int) : Decidable (argOk n s m) := by unfold argOk; infer_instance
def rowsOf (n : Int) : Int := if 1024 < n + 1 then 1024 else n + 1
def layE (n m : Int) : List Int := if m = 3 then [n, n, 4 * rowsOf n] else [n]
def layD (n m : Int) : List Int := if m = 1 then [n, 1024 * (n / 8192)] else if m = 2 then [n, 1024 * (n / 1024)] else [n, 4 * (n + 1)]
def lay (n s m : Int) : List Int := if argOk n s m then (if s = 1 then layE n m else layD n m) else []
def er (n s m : Int) : Int := if argOk n s m then 0 else 2
/-- A call that hands back a slice of its own that holds l. -/
def OwnPost (w : World) (l : List Int) (x : Ending) (w' : World) : Prop := (∃ v, x = .returned v ∧ w'.ownsRow w.heap.size 3 1 v l.length (vs .i64 l)) ∧ Below w.heap.size w w'
def LayPost (w : World) (l : List Int) (e : Int) (x : Ending) (w' : World) : Prop := (∃ v, x = .returned (.tuple #[v, .int .i64 e]) ∧ w'.ownsRow w.heap.size 3 1 v l.length (vs .i64 l)) ∧ Below w.heap.size w w'
theorem own_len {w : World} {base : Nat} {v : Value} {l : List Int} (h : w.ownsRow base 3 1 v (vs .i64 l).length (vs .i64 l)) : w.ownsRow base 3 1 v l.length (vs .i64 l) := by rw [length_vs] at h; exact h
theorem len_own {w : World} {base : Nat} {v : Value} {l : List Int} (h : w.ownsRow base 3 1 v l.length (vs .i64 l)) : w.ownsRow base 3 1 v (vs .i64 l).length (vs .i64 l) := by rw [length_vs]; exact h
theorem exec_look {o : Oper} {a : Act} {w : World} {x y : Operand} (ho : o.op = .lookup 41 x y true) {r : Nat} {s m : Int} (hx : a.eval x = .map (some r)) (hy : a.eval y = key s m) (h : Holds w r []) (hs : (Lit.int .u8 s).wf = true) (hm : (Lit.int .u8 m).wf = true) {f : Nat} (hp : plan s m = some f) :
    (execOp a.eval o).run Try.prog w = .ok (.value (.tuple #[.func (.func f) #[] #[], .bool true])) w := by
  have H := run_look h hs hm
  rw [hp] at H
  unfold execOp
  simp only [ho, hx, hy, Sem.run_bind, H, found, V, Result.andThen_ok, Sem.run_pure]
theorem exec_look0 {o : Oper} {a : Act} {w : World} {x y : Operand} (ho : o.op = .lookup 41 x y true) {r : Nat} {s m : Int} (hx : a.eval x = .map (some r)) (hy : a.eval y = key s m) (h : Holds w r []) (hs : (Lit.int .u8 s).wf = true) (hm : (Lit.int .u8 m).wf = true) (hp : plan s m = none) :
    (execOp a.eval o).run Try.prog w = .ok (.value (.tuple #[.nilFunc, .bool false])) w := by
  have H := run_look h hs hm
  rw [hp] at H
  unfold execOp
  simp only [ho, hx, hy, Sem.run_bind, H, found, Result.andThen_ok, Sem.run_pure]
set_option maxRecDepth 100000 in
set_option maxHeartbeats 1000000 in
theorem c22_any (n : Int) (w : World) : Calls Try.prog 22 #[.int .i64 n] w (OwnPost w [n]) := by
  go_enter Try.func22, Try.ntmps22
  have hm := Own.nil w
  go_wp2_with (first
    | (refine wpList_lit1_o hm rfl rfl rfl ?_; intro w1 g1 hm1; clear hm))
  go_ret
  exact ⟨⟨_, rfl, own_len (hm1.get 0 rfl)⟩, hm1.below⟩
set_option maxRecDepth 100000 in
set_option maxHeartbeats 1000000 in
theorem c23_lo (n : Int) (w : World) (h1 : 1 ≤ n) (h2 : n ≤ 65536) (h3 : ¬ 1024 < n + 1) : Calls Try.prog 23 #[.int .i64 n] w (OwnPost w [n, n, 4 * (n + 1)]) := by
  go_enter Try.func23, Try.ntmps23
  have hm := Own.nil w
  go_wp2_with (first
    | (refine wpList_lit3_o hm rfl rfl rfl rfl rfl ?_; intro w1 g1 hm1; clear hm))
  go_ret
  exact ⟨⟨_, rfl, own_len (hm1.get 0 rfl)⟩, hm1.below⟩
set_option maxRecDepth 100000 in
set_option maxHeartbeats 1000000 in
theorem c23_hi (n : Int) (w : World) (h1 : 1 ≤ n) (h2 : n ≤ 65536) (h3 : 1024 < n + 1) : Calls Try.prog 23 #[.int .i64 n] w (OwnPost w [n, n, 4 * 1024]) := by
  go_enter Try.func23, Try.ntmps23
  have hm := Own.nil w
  go_wp2_with (first
    | (refine wpList_lit3_o hm rfl rfl rfl rfl rfl ?_; intro w1 g1 hm1; clear hm))
  go_ret
  exact ⟨⟨_, rfl, own_len (hm1.get 0 rfl)⟩, hm1.below⟩
theorem c23_any (n : Int) (w : World) (h1 : 1 ≤ n) (h2 : n ≤ 65536) : Calls Try.prog 23 #[.int .i64 n] w (OwnPost w [n, n, 4 * rowsOf n]) := by
  unfold rowsOf
  split
  · exact c23_hi n w h1 h2 (by assumption)
  · exact c23_lo n w h1 h2 (by assumption)
set_option maxRecDepth 100000 in
set_option maxHeartbeats 1000000 in
theorem c24_any (n : Int) (w : World) (h1 : 1 ≤ n) (h2 : n ≤ 65536) : Calls Try.prog 24 #[.int .i64 n] w (OwnPost w [n, 1024 * (n / 8192)]) := by
  go_enter Try.func24, Try.ntmps24
  have hm := Own.nil w
  go_wp2_with (first
    | (refine wpList_lit2_o hm rfl rfl rfl rfl ?_; intro w1 g1 hm1; clear hm))
  go_ret
  exact ⟨⟨_, rfl, own_len (hm1.get 0 rfl)⟩, hm1.below⟩
set_option maxRecDepth 100000 in
set_option maxHeartbeats 1000000 in
theorem c25_any (n : Int) (w : World) (h1 : 1 ≤ n) (h2 : n ≤ 65536) : Calls Try.prog 25 #[.int .i64 n] w (OwnPost w [n, 1024 * (n / 1024)]) := by
  go_enter Try.func25, Try.ntmps25
  have hm := Own.nil w
  go_wp2_with (first
    | (refine wpList_lit2_o hm rfl rfl rfl rfl ?_; intro w1 g1 hm1; clear hm))
  go_ret
  exact ⟨⟨_, rfl, own_len (hm1.get 0 rfl)⟩, hm1.below⟩
set_option maxRecDepth 100000 in
set_option maxHeartbeats 1000000 in
theorem c26_any (n : Int) (w : World) (h1 : 1 ≤ n) (h2 : n ≤ 65536) : Calls Try.prog 26 #[.int .i64 n] w (OwnPost w [n, 4 * (n + 1)]) := by
  go_enter Try.func26, Try.ntmps26
  have hm := Own.nil w
  go_wp2_with (first
    | (refine wpList_lit2_o hm rfl rfl rfl rfl ?_; intro w1 g1 hm1; clear hm))
  go_ret
  exact ⟨⟨_, rfl, own_len (hm1.get 0 rfl)⟩, hm1.below⟩

set_option maxRecDepth 100000 in
set_option maxHeartbeats 1000000 in
theorem layout_in22 (n s m : Int) (w : World) (hs : (Lit.int .u8 s).wf = true) (hm : (Lit.int .u8 m).wf = true) (h1 : 1 ≤ n) (h2 : n ≤ 65536) (hp : plan s m = some 22) {l : List Int} (hc : ∀ w, Calls Try.prog 22 #[.int .i64 n] w (OwnPost w l)) :
    Calls Try.prog 7 #[.int .i64 n, .int .u8 s, .int .u8 m] w (LayPost w l 0) := by
  have HP := Lib.hid hp
  have HC := Lib.hid hc
  have HS := Lib.hid hs
  have HM := Lib.hid hm
  clear hp hc hs hm
  have b1 : ¬ n < 1 := by omega
  have b2 : ¬ 65536 < n := by omega
  go_enter Try.func7, Try.ntmps7
  have hm := Own.nil w
  go_wp2_with (first
    | (go_at_call 21; refine (layouts_any _).mono ?_; rintro e w1 ⟨⟨r, rfl, hH⟩, hb1⟩; have hm1 := hm.call hb1; clear hm)
    | (refine wpList_run rfl (exec_look rfl rfl rfl hH HS.out HM.out HP.out) ?_)
    | (go_at_call 22; refine (HC.out _).mono ?_; rintro e w2 ⟨⟨v, rfl, ho⟩, hb2⟩; have hm2 := hm1.callSl hb2 (len_own ho); clear hm1))
  go_ret2
  exact ⟨⟨_, rfl, own_len (hm2.get 0 rfl)⟩, hm2.below⟩
set_option maxRecDepth 100000 in
set_option maxHeartbeats 1000000 in
theorem layout_in23 (n s m : Int) (w : World) (hs : (Lit.int .u8 s).wf = true) (hm : (Lit.int .u8 m).wf = true) (h1 : 1 ≤ n) (h2 : n ≤ 65536) (hp : plan s m = some 23) {l : List Int} (hc : ∀ w, Calls Try.prog 23 #[.int .i64 n] w (OwnPost w l)) :
    Calls Try.prog 7 #[.int .i64 n, .int .u8 s, .int .u8 m] w (LayPost w l 0) := by
  have HP := Lib.hid hp
  have HC := Lib.hid hc
  have HS := Lib.hid hs
  have HM := Lib.hid hm
  clear hp hc hs hm
  have b1 : ¬ n < 1 := by omega
  have b2 : ¬ 65536 < n := by omega
  go_enter Try.func7, Try.ntmps7
  have hm := Own.nil w
  go_wp2_with (first
    | (go_at_call 21; refine (layouts_any _).mono ?_; rintro e w1 ⟨⟨r, rfl, hH⟩, hb1⟩; have hm1 := hm.call hb1; clear hm)
    | (refine wpList_run rfl (exec_look rfl rfl rfl hH HS.out HM.out HP.out) ?_)
    | (go_at_call 23; refine (HC.out _).mono ?_; rintro e w2 ⟨⟨v, rfl, ho⟩, hb2⟩; have hm2 := hm1.callSl hb2 (len_own ho); clear hm1))
  go_ret2
  exact ⟨⟨_, rfl, own_len (hm2.get 0 rfl)⟩, hm2.below⟩
set_option maxRecDepth 100000 in
set_option maxHeartbeats 1000000 in
theorem layout_in24 (n s m : Int) (w : World) (hs : (Lit.int .u8 s).wf = true) (hm : (Lit.int .u8 m).wf = true) (h1 : 1 ≤ n) (h2 : n ≤ 65536) (hp : plan s m = some 24) {l : List Int} (hc : ∀ w, Calls Try.prog 24 #[.int .i64 n] w (OwnPost w l)) :
    Calls Try.prog 7 #[.int .i64 n, .int .u8 s, .int .u8 m] w (LayPost w l 0) := by
  have HP := Lib.hid hp
  have HC := Lib.hid hc
  have HS := Lib.hid hs
  have HM := Lib.hid hm
  clear hp hc hs hm
  have b1 : ¬ n < 1 := by omega
  have b2 : ¬ 65536 < n := by omega
  go_enter Try.func7, Try.ntmps7
  have hm := Own.nil w
  go_wp2_with (first
    | (go_at_call 21; refine (layouts_any _).mono ?_; rintro e w1 ⟨⟨r, rfl, hH⟩, hb1⟩; have hm1 := hm.call hb1; clear hm)
    | (refine wpList_run rfl (exec_look rfl rfl rfl hH HS.out HM.out HP.out) ?_)
    | (go_at_call 24; refine (HC.out _).mono ?_; rintro e w2 ⟨⟨v, rfl, ho⟩, hb2⟩; have hm2 := hm1.callSl hb2 (len_own ho); clear hm1))
  go_ret2
  exact ⟨⟨_, rfl, own_len (hm2.get 0 rfl)⟩, hm2.below⟩
set_option maxRecDepth 100000 in
set_option maxHeartbeats 1000000 in
theorem layout_in25 (n s m : Int) (w : World) (hs : (Lit.int .u8 s).wf = true) (hm : (Lit.int .u8 m).wf = true) (h1 : 1 ≤ n) (h2 : n ≤ 65536) (hp : plan s m = some 25) {l : List Int} (hc : ∀ w, Calls Try.prog 25 #[.int .i64 n] w (OwnPost w l)) :
    Calls Try.prog 7 #[.int .i64 n, .int .u8 s, .int .u8 m] w (LayPost w l 0) := by
  have HP := Lib.hid hp
  have HC := Lib.hid hc
  have HS := Lib.hid hs
  have HM := Lib.hid hm
  clear hp hc hs hm
  have b1 : ¬ n < 1 := by omega
  have b2 : ¬ 65536 < n := by omega
  go_enter Try.func7, Try.ntmps7
  have hm := Own.nil w
  go_wp2_with (first
    | (go_at_call 21; refine (layouts_any _).mono ?_; rintro e w1 ⟨⟨r, rfl, hH⟩, hb1⟩; have hm1 := hm.call hb1; clear hm)
    | (refine wpList_run rfl (exec_look rfl rfl rfl hH HS.out HM.out HP.out) ?_)
    | (go_at_call 25; refine (HC.out _).mono ?_; rintro e w2 ⟨⟨v, rfl, ho⟩, hb2⟩; have hm2 := hm1.callSl hb2 (len_own ho); clear hm1))
  go_ret2
  exact ⟨⟨_, rfl, own_len (hm2.get 0 rfl)⟩, hm2.below⟩
set_option maxRecDepth 100000 in
set_option maxHeartbeats 1000000 in
theorem layout_in26 (n s m : Int) (w : World) (hs : (Lit.int .u8 s).wf = true) (hm : (Lit.int .u8 m).wf = true) (h1 : 1 ≤ n) (h2 : n ≤ 65536) (hp : plan s m = some 26) {l : List Int} (hc : ∀ w, Calls Try.prog 26 #[.int .i64 n] w (OwnPost w l)) :
    Calls Try.prog 7 #[.int .i64 n, .int .u8 s, .int .u8 m] w (LayPost w l 0) := by
  have HP := Lib.hid hp
  have HC := Lib.hid hc
  have HS := Lib.hid hs
  have HM := Lib.hid hm
  clear hp hc hs hm
  have b1 : ¬ n < 1 := by omega
  have b2 : ¬ 65536 < n := by omega
  go_enter Try.func7, Try.ntmps7
  have hm := Own.nil w
  go_wp2_with (first
    | (go_at_call 21; refine (layouts_any _).mono ?_; rintro e w1 ⟨⟨r, rfl, hH⟩, hb1⟩; have hm1 := hm.call hb1; clear hm)
    | (refine wpList_run rfl (exec_look rfl rfl rfl hH HS.out HM.out HP.out) ?_)
    | (go_at_call 26; refine (HC.out _).mono ?_; rintro e w2 ⟨⟨v, rfl, ho⟩, hb2⟩; have hm2 := hm1.callSl hb2 (len_own ho); clear hm1))
  go_ret2
  exact ⟨⟨_, rfl, own_len (hm2.get 0 rfl)⟩, hm2.below⟩
set_option maxRecDepth 100000 in
set_option maxHeartbeats 1000000 in
theorem layout_out (n s m : Int) (w : World) (hs : (Lit.int .u8 s).wf = true) (hm : (Lit.int .u8 m).wf = true) (hn : ¬ (1 ≤ n ∧ n ≤ 65536)) {f : Nat} (hp : plan s m = some f) :
    Calls Try.prog 7 #[.int .i64 n, .int .u8 s, .int .u8 m] w (LayPost w [] 2) := by
  have HP := Lib.hid hp
  have HS := Lib.hid hs
  have HM := Lib.hid hm
  clear hp hs hm
  by_cases b1 : n < 1
  · go_enter Try.func7, Try.ntmps7
    have hm := Own.nil w
    go_wp2_with (first
      | (go_at_call 21; refine (layouts_any _).mono ?_; rintro e w1 ⟨⟨r, rfl, hH⟩, hb1⟩; have hm1 := hm.call hb1; clear hm)
      | (refine wpList_run rfl (exec_look rfl rfl rfl hH HS.out HM.out HP.out) ?_))
    go_ret2
    exact ⟨⟨_, rfl, World.ownsRow_nil _ _ _ _⟩, hm1.below⟩
  · have b2 : 65536 < n := by omega
    go_enter Try.func7, Try.ntmps7
    have hm := Own.nil w
    go_wp2_with (first
      | (go_at_call 21; refine (layouts_any _).mono ?_; rintro e w1 ⟨⟨r, rfl, hH⟩, hb1⟩; have hm1 := hm.call hb1; clear hm)
      | (refine wpList_run rfl (exec_look rfl rfl rfl hH HS.out HM.out HP.out) ?_))
    go_ret2
    exact ⟨⟨_, rfl, World.ownsRow_nil _ _ _ _⟩, hm1.below⟩
set_option maxRecDepth 100000 in
set_option maxHeartbeats 1000000 in
theorem layout_no (n s m : Int) (w : World) (hs : (Lit.int .u8 s).wf = true) (hm : (Lit.int .u8 m).wf = true) (hp : plan s m = none) :
    Calls Try.prog 7 #[.int .i64 n, .int .u8 s, .int .u8 m] w (LayPost w [] 2) := by
  have HP := Lib.hid hp
  have HS := Lib.hid hs
  have HM := Lib.hid hm
  clear hp hs hm
  go_enter Try.func7, Try.ntmps7
  have hm := Own.nil w
  go_wp2_with (first
    | (go_at_call 21; refine (layouts_any _).mono ?_; rintro e w1 ⟨⟨r, rfl, hH⟩, hb1⟩; have hm1 := hm.call hb1; clear hm)
    | (refine wpList_run rfl (exec_look0 rfl rfl rfl hH HS.out HM.out HP.out) ?_))
  go_ret2
  exact ⟨⟨_, rfl, World.ownsRow_nil _ _ _ _⟩, hm1.below⟩
theorem plan_ok (s m : Int) : (∃ f, plan s m = some f) ↔ (s = 1 ∨ s = 2) ∧ (m = 1 ∨ m = 2 ∨ m = 3) := by
  unfold plan
  constructor
  · rintro ⟨f, h⟩
    repeat' split at h
    all_goals first | (cases h; done) | omega
  · intro h
    repeat' split
    all_goals first | exact ⟨_, rfl⟩ | omega
/-- **policy.Layout**, at every number, side and mode. -/
theorem layout_any (n s m : Int) (w : World) (hs : (Lit.int .u8 s).wf = true) (hm : (Lit.int .u8 m).wf = true) : Calls Try.prog 7 #[.int .i64 n, .int .u8 s, .int .u8 m] w (LayPost w (lay n s m) (er n s m)) := by
  by_cases hk : (s = 1 ∨ s = 2) ∧ (m = 1 ∨ m = 2 ∨ m = 3)
  · by_cases hn : 1 ≤ n ∧ n ≤ 65536
    · have ha : argOk n s m := ⟨hn.1, hn.2, hk.1, hk.2⟩
      rw [lay, er, if_pos ha, if_pos ha]
      rcases hk with ⟨rfl | rfl, rfl | rfl | rfl⟩
      · exact layout_in22 n 1 1 w hs hm hn.1 hn.2 rfl (fun w => c22_any n w)
      · exact layout_in22 n 1 2 w hs hm hn.1 hn.2 rfl (fun w => c22_any n w)
      · exact layout_in23 n 1 3 w hs hm hn.1 hn.2 rfl (fun w => c23_any n w hn.1 hn.2)
      · exact layout_in24 n 2 1 w hs hm hn.1 hn.2 rfl (fun w => c24_any n w hn.1 hn.2)
      · exact layout_in25 n 2 2 w hs hm hn.1 hn.2 rfl (fun w => c25_any n w hn.1 hn.2)
      · exact layout_in26 n 2 3 w hs hm hn.1 hn.2 rfl (fun w => c26_any n w hn.1 hn.2)
    · have ha : ¬ argOk n s m := fun h => hn ⟨h.1, h.2.1⟩
      rw [lay, er, if_neg ha, if_neg ha]
      obtain ⟨f, hf⟩ := (plan_ok s m).2 hk
      exact layout_out n s m w hs hm hn hf
  · have ha : ¬ argOk n s m := fun h => hk h.2.2
    rw [lay, er, if_neg ha, if_neg ha]
    refine layout_no n s m w hs hm ?_
    cases h : plan s m with
    | none => rfl
    | some f => exact absurd ((plan_ok s m).1 ⟨f, h⟩) hk
end Go.Proofs.Ytihocpbkibfpmaa
