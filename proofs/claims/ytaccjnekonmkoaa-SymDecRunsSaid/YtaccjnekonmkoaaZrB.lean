/-
  The walk of zerorun.Digits.
-/
import Derived.Test.YtaccjnekonmkoaaZrA
namespace Go.Proofs.Ytaccjnekonmkoaa
open Go Go.RowKit Go.Shelf
attribute [local go_sem] Oper.semAt_some

theorem owns_shape0 {w : World} {base : Nat} {e : TypeId} {v : Value} {n : Nat} {xs : List Value} (h : w.ownsRow base e 1 v n xs) : ∃ a c, v = .slice a n c := by
  rcases h.2 with ⟨rfl, h0⟩ | ⟨g, cap, cur, rfl, _⟩
  · exact ⟨none, 0, by rw [h0]⟩
  · exact ⟨_, _, rfl⟩
theorem info3p : (Try.prog.info? 3).map (fun i => (i.zero, i.size, i.bytes)) = some (some (.int .i64 0), 1, 8) := by kernel_rfl

theorem one39 : OneTy Try.prog 39 := ⟨fun w => by kernel_rfl, by kernel_rfl⟩
theorem results_box2 {P : Program} {fn : Func} {p t : Tmp} {ty : TypeId} (h : fn.results = #[.cell p ty, .tmp t]) {tmps : Array Value} {w : World} {B : Nat} {v : Value} {ty' : TypeId} (hp : tmps.getD p undef = .pointer (some ⟨B, 0, none⟩)) (ht : OneTy P ty) (hb : Boxed w B ty' v) : (results fn tmps).run P w = .ok (.tuple #[v, tmps.getD t undef]) w := by
  have hp' : tmps[p]?.getD undef = .pointer (some ⟨B, 0, none⟩) := by simpa using hp
  have hl : (loadVar ty ⟨B, 0, none⟩).run P w = .ok v w := by
    simp only [loadVar, Sem.run_bind, Result.andThen_ok, ht.1, Bool.false_eq_true, if_false, run_load, hb.cell]
  simp [results, h, hp', asAddr, hl]
set_option maxRecDepth 100000 in
set_option maxHeartbeats 2000000 in
theorem digits_in (F : Fence) (n : Nat) (h34 : F.fn 34) (h68 : F.fn 68) (h73 : F.fn 73) (hro : F.round = none) (hn : 3 ≤ n) (m : Nat) (hm : m < 2 ^ 31) (w : World) :
    CallsIn F n Try.prog 34 #[.int .i64 m] w fun e W' => (∃ v, e = .returned (.tuple #[v, .int .i64 0]) ∧ W'.ownsRow w.heap.size 3 1 v (dg m).length (vs .i64 (dg m))) ∧ Below w.heap.size w W' := by
  have h1 : 1 ≤ n := by omega
  have g1 : ¬ (m : Int) < 0 := by omega
  have g2 : ¬ (2147483647 : Int) < m := by omega
  obtain ⟨i0, hi, hz0, hz1, hz2⟩ := info_parts info3p
  refine callsIn_of_wp_marks Try.func34 rfl h34 ?_ hro
  simp only [Try.ntmps34, List.size_toArray, List.length_cons, List.length_nil, Nat.reduceAdd, Nat.reduceSub, Array.replicate_succ, Array.replicate_zero, List.push_toArray, List.append_toArray, List.nil_append, List.cons_append]
  gi_wp2_with (gi_at_call 68; refine (down_in F (n - 1) h68 hro _ _).mono ?_; rintro e w' ⟨rfl, rfl⟩)
  have bO := Boxed.new w 39 (.slice none 0 0)
  have bN := Boxed.new (w.alloc (.cells #[.slice none 0 0] 39)) 3 (.int .i64 m)
  rw [World.size_alloc] at bN
  have hB0 : Below w.heap.size w ((w.alloc (.cells #[.slice none 0 0] 39)).alloc (.cells #[.int .i64 m] 3)) := ((Below.refl _ w).alloc (Nat.le_refl _) _).alloc (by simp) _
  refine range_cell hro h1 (gf := 73) (lb := #[.pointer (some ⟨w.heap.size + 1, 0, none⟩)]) rfl h73 (enters_of Try.func73 (by kernel_rfl) rfl) rfl (w.heap.size + 1) (by simp) (dg m)
    (fun l J W hW hJ hY h0 => down1_in F (n - 1) h73 hro (by omega) l (w.heap.size + 1) m hm J W ((World.cell?_of_block (a := ⟨w.heap.size + 1, 0, none⟩) hW).trans bN.cell) ((World.frozen?_of_block (a := ⟨w.heap.size + 1, 0, none⟩) hW).trans bN.frozen) hJ hY h0)
    (fun pre W => ((∃ v, Boxed W w.heap.size 39 v ∧ W.ownsRow (w.heap.size + 2) 3 1 v pre.length (pre.map (Value.int .i64)) ∧ True) ∧ Below w.heap.size w W) ∧ w.heap.size + 2 ≤ W.heap.size)
    (OwnFrom.and (OwnFrom.and (Own.from (holdsRow_own (w.heap.size + 2) w.heap.size 39 3 1 (fun (pre : List Int) => pre.length) (fun (pre : List Int) => pre.map (Value.int .i64)) (fun _ _ => True)) _) (ownFrom_below (Nat.le_refl _) (by simp; omega))) (fun _ _ _ _ hs hg _ => Nat.le_trans hs hg.size))
    (fun pre A v hs => by
      obtain ⟨⟨⟨u, hu, hr, _⟩, hB⟩, hsz⟩ := hs
      exact ⟨⟨⟨u, (Below.heap_setCell A ⟨w.heap.size + 1, 0, none⟩ v w.heap.size (by simp)).trans hu, ownsRow_setCell_below hr (by simp) v, trivial⟩, hB.setCell (p := ⟨w.heap.size + 1, 0, none⟩) (by simp) v⟩, by simpa using hsz⟩)
    ⟨⟨⟨_, bO.alloc _, World.ownsRow_nil _ _ _ _, trivial⟩, hB0⟩, by simp⟩
    (fun x => { tmps := #[.int .i64 m, undef, .pointer (some ⟨w.heap.size, 0, none⟩), .int .i64 0, .int .i64 x, .int .i64 m, .bool false, .bool false, .int .i64 m, .bool false, .bool false, .int .i64 m, .func (.func 73) #[] #[.pointer (some ⟨w.heap.size + 1, 0, none⟩)], .int .i64 x, undef, undef, undef, undef, undef], defers := [] }) ?assign ?body ?done
  case assign =>
    intro l x W K hK
    gi_wp2
    exact hK
  case body =>
    rintro l pre x W ⟨⟨⟨v, hv, hrow, _⟩, hB⟩, hsz⟩ hlt
    have hc := hv.cell
    have hle := len_dg 31 m hm
    gi_wp2_with (gi_at_builtin; refine wpListIn_append_own _ rfl _ _ 39 rfl (w.heap.size + 2) 3 i0 (.int .i64 0) 1 8 Try.underlying39 hi hz0 hz1 hz2 rfl (by decide) _ _ _ rfl (hrow.alloc _) ⟨W.heap.size, 0, none⟩ 1 1 [.int .i64 x] rfl rfl (cell_one_new _ _ _) (by simp [Value.oneCell']) (by simp only [maxLen]; omega) (by omega) (by simp; omega) ?_; intro v' w1 hown' hgrow _; obtain ⟨g', cap', rfl⟩ := ownsRow_succ hown'; obtain ⟨hv1, hv2, hr2, hk2, hb2⟩ := hv.appended (by decide) (ownsRow_base hrow (base' := w.heap.size) (by omega)) hB.size (Nat.le_refl _) (ownsRow_base hown' (base' := w.heap.size) (by omega)) hgrow; have hc1 := hv1.cell; have hf1 := hv1.frozen)
    have hne : some (w.heap.size + 1) ≠ v.ownBlock := fun e => by have := (hrow.lt _ e.symm).1; omega
    refine ⟨hk2.from _, ?_, ⟨⟨⟨_, hv2, by simpa using ownsRow_setCell_below hown' (a := ⟨w.heap.size, 0, none⟩) (by simp) _, trivial⟩, hB.trans hb2⟩, ?_⟩⟩
    · exact (Below.heap_setCell _ _ _ _ (by simp)).trans ((hgrow.block _ (by simp; omega) hne).trans (Below.heap_alloc _ _ _ (by omega)))
    · exact Nat.le_trans hsz hk2.size
  case done =>
    rintro D W hD ⟨⟨⟨v, hv, hrow, _⟩, hB⟩, hsz⟩ hK
    obtain ⟨ad, cp, rfl⟩ := owns_shape0 hrow
    have hc := hv.cell
    have hf := hv.frozen
    gi_wp2
    have hK2 := (KeepsOthers.setCell W ⟨w.heap.size, 0, none⟩ (.slice ad (dg m).length cp)).same D _ hK rfl
    have hD2 : w.heap.size + 2 ≤ D := by simpa using hD
    have hbx : Boxed ((W.setCell ⟨w.heap.size, 0, none⟩ (.slice ad (dg m).length cp)).putObj D (.deferred none)) w.heap.size 39 (.slice ad (dg m).length cp) := (hv.set _).kept (grownBy_putObj' _ D _) (by simp; omega)
    have hr2 := ownsRow_putObj (ownsRow_setCell_below hrow (a := ⟨w.heap.size, 0, none⟩) (by simp) (.slice ad (dg m).length cp)) (.deferred none) hK2 rfl
    have hbl := (hB.setCell (p := ⟨w.heap.size, 0, none⟩) (Nat.le_refl _) (.slice ad (dg m).length cp)).trans (belowK_b (w := w) (Nat.le_refl _) _ D _ (.deferred none) (by omega) hK2 rfl rfl)
    refine ⟨by simp, .inl ⟨_, _, rfl, run_takeDeferred hK2, ?_⟩⟩
    refine ⟨_, results_box2 rfl rfl one39 hbx, ⟨_, rfl, ownsRow_base hr2 (by omega)⟩, hbl⟩
set_option maxRecDepth 100000 in
set_option maxHeartbeats 2000000 in
theorem digits_lo (F : Fence) (n : Nat) (h34 : F.fn 34) (hro : F.round = none) (m : Int) (hm : m < 0) (w : World) :
    CallsIn F n Try.prog 34 #[.int .i64 m] w fun e W' => (e = .returned (.tuple #[.slice none 0 0, .int .i64 2])) ∧ Below w.heap.size w W' := by
  refine callsIn_of_wp_marks Try.func34 rfl h34 ?_ hro
  simp only [Try.ntmps34, List.size_toArray, List.length_cons, List.length_nil, Nat.reduceAdd, Nat.reduceSub, Array.replicate_succ, Array.replicate_zero, List.push_toArray, List.append_toArray, List.nil_append, List.cons_append]
  have bO := Boxed.new w 39 (.slice none 0 0)
  have hc := bO.cell
  have hf := bO.frozen
  gi_wp2
  exact ⟨_, results_box2 rfl rfl one39 bO, rfl, (Below.refl _ w).alloc (Nat.le_refl _) _⟩
set_option maxRecDepth 100000 in
set_option maxHeartbeats 2000000 in
theorem digits_hi (F : Fence) (n : Nat) (h34 : F.fn 34) (hro : F.round = none) (m : Int) (hm : 2147483647 < m) (w : World) :
    CallsIn F n Try.prog 34 #[.int .i64 m] w fun e W' => (e = .returned (.tuple #[.slice none 0 0, .int .i64 2])) ∧ Below w.heap.size w W' := by
  have h0 : ¬ m < 0 := by omega
  refine callsIn_of_wp_marks Try.func34 rfl h34 ?_ hro
  simp only [Try.ntmps34, List.size_toArray, List.length_cons, List.length_nil, Nat.reduceAdd, Nat.reduceSub, Array.replicate_succ, Array.replicate_zero, List.push_toArray, List.append_toArray, List.nil_append, List.cons_append]
  have bO := Boxed.new w 39 (.slice none 0 0)
  have hc := bO.cell
  have hf := bO.frozen
  gi_wp2
  exact ⟨_, results_box2 rfl rfl one39 bO, rfl, (Below.refl _ w).alloc (Nat.le_refl _) _⟩
/-- What Digits hands back: the digits and an error's number. -/
def dgO (m : Int) : List Int := if 0 ≤ m ∧ m ≤ 2147483647 then dg m.toNat else []
def dgE (m : Int) : Int := if 0 ≤ m ∧ m ≤ 2147483647 then 0 else 2
def ListPost (w : World) (l : List Int) (e : Int) (x : Ending) (w' : World) : Prop := (∃ v, x = .returned (.tuple #[v, .int .i64 e]) ∧ w'.ownsRow w.heap.size 3 1 v l.length (vs .i64 l)) ∧ Below w.heap.size w w'
theorem digits_any (m : Int) (w : World) : Calls Try.prog 34 #[.int .i64 m] w (ListPost w (dgO m) (dgE m)) := by
  by_cases h : 0 ≤ m ∧ m ≤ 2147483647
  · obtain ⟨k, rfl⟩ := Int.eq_ofNat_of_zero_le h.1
    rw [dgO, dgE, if_pos h, if_pos h, Int.toNat_natCast]
    exact callsIn_wide.1 (digits_in Fence.wide 3 trivial trivial trivial rfl (Nat.le_refl _) k (by omega) w)
  · rw [dgO, dgE, if_neg h, if_neg h]
    by_cases h0 : m < 0
    · exact (callsIn_wide.1 (digits_lo Fence.wide 3 trivial rfl m h0 w)).mono fun e W' ⟨he, hb⟩ => ⟨⟨_, he, World.ownsRow_nil _ _ _ _⟩, hb⟩
    · exact (callsIn_wide.1 (digits_hi Fence.wide 3 trivial rfl m (by omega) w)).mono fun e W' ⟨he, hb⟩ => ⟨⟨_, he, World.ownsRow_nil _ _ _ _⟩, hb⟩
end Go.Proofs.Ytaccjnekonmkoaa
