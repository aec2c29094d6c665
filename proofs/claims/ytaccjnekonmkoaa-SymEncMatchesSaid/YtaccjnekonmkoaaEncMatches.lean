/-
  The statement SymEncMatches: the walk (SeM) put under the given row.
-/
import Derived.Test.YtaccjnekonmkoaaSeM
import Derived.Test.YtaccjnekonmkoaaFrameE
namespace Go.Proofs.Ytaccjnekonmkoaa
open Go Go.RowKit Go.ChangeShapes Go.WideShapes Go.ChangeAt
set_option linter.unusedVariables false
theorem encmatches_walk (l : List Int) (r : Int) (hl : l.length = 256) (hb : Bytes l) (hw : (Lit.int .i64 r).wf = true) (v : Value) (b : List Int) {w : World} (hv : In .u8 w v b) (hbb : Bytes b) (_w : World) : Calls Try.prog 12 #[.agg (EV l r), v] w fun e w' => e = .returned (.bool true) ∧ Below w.heap.size w w' :=
  sem15 l r v b w hl hb hbb hv
set_option maxRecDepth 100000 in
theorem symEncMatches_lifted (os : Os) (started : os.Started) (H : Type) (enc : TypeId × Value → H) :
    ReturnsInHanded {} Try.checked os 12 .any (Rows.symEncMatchesSpec.pre6 enc Try.prog Try.f12 Rows.symEncMatchesRow.domain false) (Rows.symEncMatchesSpec.post enc Try.prog Try.f12 false true false false) := by
  refine returnsInHanded_of_change (C := Try.checked) own started (by kernel_rfl) Try.func12
    (ChangeSpec.witness6 (enc := enc) (C := Try.checked) false ⟨#[], #[.agg ((Array.replicate 256 (.int .u8 0)).push (.int .i64 0)), .slice none 0 0], []⟩ 8 (by kernel_rfl) (by kernel_rfl) (by kernel_rfl) (by kernel_rfl)) ?_
  intro W base args ds gs before hval0 hW hcnd _
  have hval : ∀ (j : Nat) t v, Try.f12.params[j]? = some t → args[j]? = some v → Value.okWide Try.prog W .any base t v := hval0
  have hW' := hW
  obtain ⟨p, q, hA0, hV, rfl, hfz, hnd⟩ := hW
  have hA : DataW.TrodAll enc Try.prog W 0 (fun _ => true) true Try.f12.params.toList args.toList ds p := hA0
  rw [Try.params12] at hA hval
  obtain ⟨v0, vs0, d0, ds0, p0, q0, hargs, rfl, rfl, h0, r0⟩ := trodAll_cons hA
  obtain ⟨v1, vs1, d1, ds1, p1, q1, rfl, rfl, rfl, h1, r1⟩ := trodAll_cons r0
  obtain ⟨rfl, rfl, rfl⟩ := trodAll_nil r1
  obtain rfl : args = #[v0, v1] := by cases args; simp_all
  obtain ⟨rfl, rfl⟩ := trodVars_none hV
  have k0 := h0
  have lt0 : ∀ x ∈ p0, x.block < W.heap.size := by obtain ⟨m, hm⟩ := k0; exact DataW.trod_lt m _ _ _ hm
  obtain ⟨l0, r0q, rfl, hl0, hb0, hw0⟩ := open_st57 h0
  have k1 := h1
  have lt1 : ∀ x ∈ p1, x.block < W.heap.size := by obtain ⟨m, hm⟩ := k1; exact DataW.trod_lt m _ _ _ hm
  obtain ⟨b1, hv1, hb1, hn1⟩ := open_sl24 (hval 1 24 v1 rfl rfl) h1
  clear hA0 hval0
  refine (encmatches_walk l0 r0q hl0 hb0 hw0 v1 b1 hv1 hb1 W).mono fun e W' ⟨he, bel⟩ => ?_
  subst he
  exact ⟨_, rfl, _, _, _, [], _, [], hW', trodAll_mk1 (shut_bool Try.underlying4 _), (trodAll_cons_mk (Below.trod laidOut (by kernel_rfl) (of_decide_eq_true (by kernel_rfl)) k0 bel lt0) (trodAll_cons_mk (Below.trod laidOut (by kernel_rfl) (of_decide_eq_true (by kernel_rfl)) k1 bel lt1) trodAll_mk0)), rfl, bel.frame _, fun h => by cases h⟩
theorem symEncMatches_over : Rows.symEncMatchesRow.holds Try.pinned (OpenSpec.ofChange Rows.symEncMatchesSpec) :=
  OpenClaim.holds_of_wide 12 Try.f12 rfl rfl rfl rfl rfl rfl rfl ⟨rfl, rfl, rfl, rfl, rfl⟩ rfl rfl rfl rfl rfl (by kernel_rfl) Try.func12 (by kernel_rfl)
    (of_decide_eq_true (by kernel_rfl)) (by unfold Func.isWrapper; first | (rw [if_pos (by decide +kernel)]; kernel_rfl) | (rw [if_neg (by decide +kernel)]; exact ⟨rfl, rfl⟩))
    (fun os started H enc _ => symEncMatches_lifted os started H enc)
/-- The statement 'SymEncMatches'. -/
theorem symEncMatches_proved : Rows.SymEncMatchesSaid := symEncMatches_over
end Go.Proofs.Ytaccjnekonmkoaa
