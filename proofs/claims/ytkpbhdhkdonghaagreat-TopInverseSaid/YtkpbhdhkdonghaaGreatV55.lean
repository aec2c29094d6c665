/-
  The statement: the walk put under the given row.
-/
import Derived.Test.YtkpbhdhkdonghaaGreatV53
import Derived.Test.YtkpbhdhkdonghaaGreatV54
set_option linter.all false
namespace Go.Proofs.YtkpbhdhkdonghaaGreat
open Go Go.RowKit Go.ChangeShapes Go.WideShapes Go.ChangeAt
set_option linter.unusedVariables false
theorem tid_walk (v : Value) (l : List Int) {w : World} (hv : In .u8 w v l) (hb : Bytes l) (index : Int) (_h : (Lit.int .i64 index).wf = true) (dist : Int) (_g : (Lit.int .i64 dist).wf = true) (_w : World) : Calls Tryz.prog 6 #[v, .int .i64 index, .int .i64 dist] w fun e w' => e = .returned (.bool true) ∧ Below w.heap.size w w' := by
  by_cases p1 : l.length = 0
  · exact tib_1 v l index dist w hv p1
  by_cases p2 : 60 < l.length
  · exact tib_2 v l index dist w hv p1 p2
  by_cases p3 : index < 1
  · exact tib_3 v l index dist w hv p1 p2 p3
  by_cases p4 : (l.length : Int) < index
  · exact tib_4 v l index dist w hv p1 p2 p3 p4
  by_cases p5 : dist < 1
  · exact tib_5 v l index dist w hv p1 p2 p3 p4 p5
  by_cases p6 : 100 < dist
  · exact tib_6 v l index dist w hv p1 p2 p3 p4 p5 p6
  obtain ⟨i, rfl⟩ := Int.eq_ofNat_of_zero_le (show 0 ≤ index by omega)
  obtain ⟨d, rfl⟩ := Int.eq_ofNat_of_zero_le (show 0 ≤ dist by omega)
  exact tic_in v l i d w hb hv (by omega) (by omega) (by omega) (by omega) (by omega) (by omega)
set_option maxRecDepth 100000 in
theorem topInverse_lifted (os : Os) (started : os.Started) (H : Type) (enc : TypeId × Value → H) :
    ReturnsInHanded {} Tryz.checked os 6 .any (Rows.topInverseSpec.pre6 enc Tryz.prog Tryz.f6 Rows.topInverseRow.domain false) (Rows.topInverseSpec.post enc Tryz.prog Tryz.f6 false true false false) := by
  refine returnsInHanded_of_change (C := Tryz.checked) Frt.own started (by kernel_rfl) Tryz.func6
    (ChangeSpec.witness6 (enc := enc) (C := Tryz.checked) false ⟨#[], #[.slice none 0 0, .int .i64 0, .int .i64 0], []⟩ 8 (by kernel_rfl) (by kernel_rfl) (by kernel_rfl) (by kernel_rfl)) ?_
  intro W base args ds gs before hval0 hW hcnd _
  have hval : ∀ (j : Nat) t v, Tryz.f6.params[j]? = some t → args[j]? = some v → Value.okWide Tryz.prog W .any base t v := hval0
  have hW' := hW
  obtain ⟨p, q, hA0, hV, rfl, hfz, hnd⟩ := hW
  have hA : DataW.TrodAll enc Tryz.prog W 0 (fun _ => true) true Tryz.f6.params.toList args.toList ds p := hA0
  rw [Tryz.params6] at hA hval
  obtain ⟨v0, vs0, d0, ds0, p0, q0, hargs, rfl, rfl, h0, r0⟩ := trodAll_cons hA
  obtain ⟨v1, vs1, d1, ds1, p1, q1, rfl, rfl, rfl, h1, r1⟩ := trodAll_cons r0
  obtain ⟨v2, vs2, d2, ds2, p2, q2, rfl, rfl, rfl, h2, r2⟩ := trodAll_cons r1
  obtain ⟨rfl, rfl, rfl⟩ := trodAll_nil r2
  obtain rfl : args = #[v0, v1, v2] := by cases args; simp_all
  obtain ⟨rfl, rfl⟩ := trodVars_none hV
  have k0 := h0
  have lt0 : ∀ x ∈ p0, x.block < W.heap.size := by obtain ⟨m, hm⟩ := k0; exact DataW.trod_lt m _ _ _ hm
  obtain ⟨b0, hv0, hb0, hn0⟩ := open_sl22 (hval 0 22 v0 rfl rfl) h0
  obtain ⟨a1, rfl, rfl, rfl, w1⟩ := open_int Tryz.underlying3 (hval 1 3 v1 rfl rfl) h1
  obtain ⟨a2, rfl, rfl, rfl, w2⟩ := open_int Tryz.underlying3 (hval 2 3 v2 rfl rfl) h2
  clear hA0 hval0
  refine (tid_walk v0 b0 hv0 hb0 a1 w1 a2 w2 W).mono fun e W' ⟨he, bel⟩ => ?_
  subst he
  exact ⟨_, rfl, _, _, _, [], _, [], hW', trodAll_mk1 (shut_bool Tryz.underlying4 _), (trodAll_cons_mk (Below.trod Frt.laidOut (by kernel_rfl) (of_decide_eq_true (by kernel_rfl)) k0 bel lt0) (trodAll_cons_mk (shut_int Tryz.underlying3 w1) (trodAll_cons_mk (shut_int Tryz.underlying3 w2) trodAll_mk0))), rfl, bel.frame _, fun h => by cases h⟩
theorem topInverse_over : Rows.topInverseRow.holds Tryz.pinned (OpenSpec.ofChange Rows.topInverseSpec) :=
  OpenClaim.holds_of_wide 6 Tryz.f6 rfl rfl rfl rfl rfl rfl rfl ⟨rfl, rfl, rfl, rfl, rfl⟩ rfl rfl rfl rfl rfl (by kernel_rfl) Tryz.func6 (by kernel_rfl)
    (of_decide_eq_true (by kernel_rfl)) (by unfold Func.isWrapper; first | (rw [if_pos (by decide +kernel)]; kernel_rfl) | (rw [if_neg (by decide +kernel)]; exact ⟨rfl, rfl⟩))
    (fun os started H enc _ => topInverse_lifted os started H enc)
theorem topInverse_proved : Rows.TopInverseSaid := topInverse_over
end Go.Proofs.YtkpbhdhkdonghaaGreat
