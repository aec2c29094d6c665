/-
  The statement SymDecMatches: the walk (SdM) put under the given row.
-/
import Derived.Test.YtaccjnekonmkoaaSdM
import Derived.Test.YtaccjnekonmkoaaFrameD
namespace Go.Proofs.Ytaccjnekonmkoaa
open Go Go.RowKit Go.ChangeShapes Go.WideShapes Go.ChangeAt
set_option linter.unusedVariables false
theorem decmatches_walk (b : DS) (hl : b.l.length = 256) (hb : Bytes b.l) (s : Int) (_s : (Lit.int .i64 s).wf = true) (most : Int) (_m : (Lit.int .i64 most).wf = true) (v : Value) (l : List Int) {w : World} (hv : InC .i64 w v l) (_t : True) (_w : World) : Calls Try.prog 16 #[.agg (V b), .int .i64 s, .int .i64 most, v] w fun e w' => e = .returned (.bool true) ∧ Below w.heap.size w w' :=
  sdm16 b s most l v w hl hb (by obtain ⟨ad, c, rfl, _, hc⟩ := hv; exact ⟨ad, c, rfl, hc⟩)
set_option maxRecDepth 100000 in
theorem symDecMatches_lifted (os : Os) (started : os.Started) (H : Type) (enc : TypeId × Value → H) :
    ReturnsInHanded {} Try.checked os 16 .any (Rows.symDecMatchesSpec.pre6 enc Try.prog Try.f16 Rows.symDecMatchesRow.domain false) (Rows.symDecMatchesSpec.post enc Try.prog Try.f16 false true false false) := by
  refine returnsInHanded_of_change (C := Try.checked) own started (by kernel_rfl) Try.func16
    (ChangeSpec.witness6 (enc := enc) (C := Try.checked) false ⟨#[], #[.agg (((((Array.replicate 256 (.int .u8 0)).push (.int .i64 0)).push (.int .i64 0)).push (.int .i64 0)).push (.bool false)), .int .i64 0, .int .i64 0, .slice none 0 0], []⟩ 8 (by kernel_rfl) (by kernel_rfl) (by kernel_rfl) (by kernel_rfl)) ?_
  intro W base args ds gs before hval0 hW hcnd _
  have hval : ∀ (j : Nat) t v, Try.f16.params[j]? = some t → args[j]? = some v → Value.okWide Try.prog W .any base t v := hval0
  have hW' := hW
  obtain ⟨p, q, hA0, hV, rfl, hfz, hnd⟩ := hW
  have hA : DataW.TrodAll enc Try.prog W 0 (fun _ => true) true Try.f16.params.toList args.toList ds p := hA0
  rw [Try.params16] at hA hval
  obtain ⟨v0, vs0, d0, ds0, p0, q0, hargs, rfl, rfl, h0, r0⟩ := trodAll_cons hA
  obtain ⟨v1, vs1, d1, ds1, p1, q1, rfl, rfl, rfl, h1, r1⟩ := trodAll_cons r0
  obtain ⟨v2, vs2, d2, ds2, p2, q2, rfl, rfl, rfl, h2, r2⟩ := trodAll_cons r1
  obtain ⟨v3, vs3, d3, ds3, p3, q3, rfl, rfl, rfl, h3, r3⟩ := trodAll_cons r2
  obtain ⟨rfl, rfl, rfl⟩ := trodAll_nil r3
  obtain rfl : args = #[v0, v1, v2, v3] := by cases args; simp_all
  obtain ⟨rfl, rfl⟩ := trodVars_none hV
  have k0 := h0
  have lt0 : ∀ x ∈ p0, x.block < W.heap.size := by obtain ⟨m, hm⟩ := k0; exact DataW.trod_lt m _ _ _ hm
  obtain ⟨b0, rfl, hl0, hb0⟩ := open_st70 h0
  obtain ⟨a1, rfl, rfl, rfl, w1⟩ := open_int Try.underlying3 (hval 1 3 v1 rfl rfl) h1
  obtain ⟨a2, rfl, rfl, rfl, w2⟩ := open_int Try.underlying3 (hval 2 3 v2 rfl rfl) h2
  have k3 := h3
  have lt3 : ∀ x ∈ p3, x.block < W.heap.size := by obtain ⟨m, hm⟩ := k3; exact DataW.trod_lt m _ _ _ hm
  obtain ⟨b3, hv3, hb3, hn3⟩ := open_sl39c (hval 3 39 v3 rfl rfl) h3
  clear hA0 hval0
  refine (decmatches_walk b0 hl0 hb0 a1 w1 a2 w2 v3 b3 hv3 hb3 W).mono fun e W' ⟨he, bel⟩ => ?_
  subst he
  exact ⟨_, rfl, _, _, _, [], _, [], hW', trodAll_mk1 (shut_bool Try.underlying4 _), (trodAll_cons_mk (Below.trod laidOut (by kernel_rfl) (of_decide_eq_true (by kernel_rfl)) k0 bel lt0) (trodAll_cons_mk (shut_int Try.underlying3 w1) (trodAll_cons_mk (shut_int Try.underlying3 w2) (trodAll_cons_mk (Below.trod laidOut (by kernel_rfl) (of_decide_eq_true (by kernel_rfl)) k3 bel lt3) trodAll_mk0)))), rfl, bel.frame _, fun h => by cases h⟩
theorem symDecMatches_over : Rows.symDecMatchesRow.holds Try.pinned (OpenSpec.ofChange Rows.symDecMatchesSpec) :=
  OpenClaim.holds_of_wide 16 Try.f16 rfl rfl rfl rfl rfl rfl rfl ⟨rfl, rfl, rfl, rfl, rfl⟩ rfl rfl rfl rfl rfl (by kernel_rfl) Try.func16 (by kernel_rfl)
    (of_decide_eq_true (by kernel_rfl)) (by unfold Func.isWrapper; first | (rw [if_pos (by decide +kernel)]; kernel_rfl) | (rw [if_neg (by decide +kernel)]; exact ⟨rfl, rfl⟩))
    (fun os started H enc _ => symDecMatches_lifted os started H enc)
/-- The statement 'SymDecMatches'. -/
theorem symDecMatches_proved : Rows.SymDecMatchesSaid := symDecMatches_over
end Go.Proofs.Ytaccjnekonmkoaa
