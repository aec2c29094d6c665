/-
  The walk of symdec.Valid, where it comes to its end.
-/
import Derived.Test.YtaccjnekonmkoaaSdB
namespace Go.Proofs.Ytaccjnekonmkoaa
open Go Go.RowKit

set_option maxRecDepth 100000 in
set_option maxHeartbeats 2000000 in
theorem dv_open (b : DS) (w : World) (hl : b.l.length = 256) (CV : Hid (∀ w, Calls Try.prog 25 #[.agg (B b.l)] w fun e w' => (e = .returned (.bool true)) ∧ Below w.heap.size w w')) (h1 : ¬ b.left < 0) (h2 : ¬ 65536 < b.left) (h3 : ¬ b.run < 0) (h4 : ¬ b.left < b.run) (h5 : ¬ b.dig < 0) (h6 : ¬ 16 < b.dig) (h7 : ¬ b.run < 2 ^ b.dig.toNat - 1) (h8 : ¬ 2 * (2 ^ b.dig.toNat - 1) < b.run) (h9 : b.fin = false) : Calls Try.prog 60 #[.agg (V b)] w fun e w' => (e = .returned (.bool true)) ∧ Below w.heap.size w w' := by
  obtain ⟨k, hk⟩ := Int.eq_ofNat_of_zero_le (show 0 ≤ b.dig by omega)
  have hp := pow_le k (by omega)
  have w1 : wrap64 (2 ^ k : Int) = 2 ^ k := w64 (by omega)
  have w2 : wrap64 ((2 : Int) ^ k - 1) = 2 ^ k - 1 := w64 (by omega)
  have w3 : wrap64 (2 * ((2 : Int) ^ k - 1)) = 2 * (2 ^ k - 1) := w64 (by omega)
  have i1 : IntKind.i64.wrap ((2 : Int) ^ k - 1) = 2 ^ k - 1 := IntWalk.i64_in _ (by omega)
  have i2 : IntKind.i64.wrap (2 * ((2 : Int) ^ k - 1)) = 2 * (2 ^ k - 1) := IntWalk.i64_in _ (by omega)
  have q1 : decide (b.left < 0) = false := decide_eq_false h1
  have q2 : decide (65536 < b.left) = false := decide_eq_false h2
  have q3 : decide (b.run < 0) = false := decide_eq_false h3
  have q4 : decide (b.left < b.run) = false := decide_eq_false h4
  have q5 : decide (b.dig < 0) = false := decide_eq_false h5
  have q6 : decide (16 < b.dig) = false := decide_eq_false h6
  rw [hk, Int.toNat_natCast] at h7 h8
  have q7 : decide (b.run < (2 : Int) ^ k - 1) = false := decide_eq_false h7
  have q8 : decide (2 * ((2 : Int) ^ k - 1) < b.run) = false := decide_eq_false h8
  clear hp
  go_enter Try.func60, Try.ntmps60
  have hm := Own.nil w
  go_wp2_with (first
    | (refine wpList_box_o hm rfl rfl rfl ?_; intro w1 g hm1; clear hm)
    | (refine wpList_load_part rfl rfl rfl (hm1.row 0 rfl) (aggB _ hl) (extract_V hl) (fitV hl) ?_)
    | (go_at_call 25; have _t := hm1; refine (CV.out _).mono ?_; rintro e w2 ⟨rfl, hb2⟩; have hm2 := hm1.call hb2; clear hm1)
    | (refine wpList_run rfl (exec_loadcell' (off := 256) rfl rfl (hm2.row 0 rfl) one3 (getV1 hl)) ?_)
    | (refine wpList_run rfl (exec_loadcell' (off := 257) rfl rfl (hm2.row 0 rfl) one3 (getV2 hl)) ?_)
    | (refine wpList_run rfl (exec_loadcell' (off := 258) rfl rfl (hm2.row 0 rfl) one3 (getV3 hl)) ?_)
    | (refine wpList_run rfl (exec_loadcell' (off := 259) rfl rfl (hm2.row 0 rfl) one4 (getV4 hl)) ?_)
    | (refine wpList_load_all rfl rfl rfl (hm2.row 0 rfl) (aggV hl) ?_)
    | (refine wpList_load_part rfl rfl rfl (hm2.row 0 rfl) (aggB _ hl) (extract_V hl) (fitV hl) ?_)
    | (refine wpList_run rfl (exec_build70_4 rfl rfl rfl hl) ?_))
  go_ret
  exact ⟨rfl, hm2.below⟩
set_option maxRecDepth 100000 in
set_option maxHeartbeats 2000000 in
theorem dv_shut (b : DS) (w : World) (hl : b.l.length = 256) (CV : Hid (∀ w, Calls Try.prog 25 #[.agg (B b.l)] w fun e w' => (e = .returned (.bool true)) ∧ Below w.heap.size w w')) (h1 : ¬ b.left < 0) (h2 : ¬ 65536 < b.left) (h3 : ¬ b.run < 0) (h4 : ¬ b.left < b.run) (h5 : ¬ b.dig < 0) (h6 : ¬ 16 < b.dig) (h7 : ¬ b.run < 2 ^ b.dig.toNat - 1) (h8 : ¬ 2 * (2 ^ b.dig.toNat - 1) < b.run) (h9 : b.fin = true) (r : Bool) (DE : Hid (dsEq b ⟨b.l, 0, 0, 0, true⟩ = r)) : Calls Try.prog 60 #[.agg (V b)] w fun e w' => (e = .returned (.bool r)) ∧ Below w.heap.size w w' := by
  obtain ⟨k, hk⟩ := Int.eq_ofNat_of_zero_le (show 0 ≤ b.dig by omega)
  have hp := pow_le k (by omega)
  have w1 : wrap64 (2 ^ k : Int) = 2 ^ k := w64 (by omega)
  have w2 : wrap64 ((2 : Int) ^ k - 1) = 2 ^ k - 1 := w64 (by omega)
  have w3 : wrap64 (2 * ((2 : Int) ^ k - 1)) = 2 * (2 ^ k - 1) := w64 (by omega)
  have i1 : IntKind.i64.wrap ((2 : Int) ^ k - 1) = 2 ^ k - 1 := IntWalk.i64_in _ (by omega)
  have i2 : IntKind.i64.wrap (2 * ((2 : Int) ^ k - 1)) = 2 * (2 ^ k - 1) := IntWalk.i64_in _ (by omega)
  have q1 : decide (b.left < 0) = false := decide_eq_false h1
  have q2 : decide (65536 < b.left) = false := decide_eq_false h2
  have q3 : decide (b.run < 0) = false := decide_eq_false h3
  have q4 : decide (b.left < b.run) = false := decide_eq_false h4
  have q5 : decide (b.dig < 0) = false := decide_eq_false h5
  have q6 : decide (16 < b.dig) = false := decide_eq_false h6
  rw [hk, Int.toNat_natCast] at h7 h8
  have q7 : decide (b.run < (2 : Int) ^ k - 1) = false := decide_eq_false h7
  have q8 : decide (2 * ((2 : Int) ^ k - 1) < b.run) = false := decide_eq_false h8
  clear hp
  go_enter Try.func60, Try.ntmps60
  have hm := Own.nil w
  go_wp2_with (first
    | (refine wpList_box_o hm rfl rfl rfl ?_; intro w1 g hm1; clear hm)
    | (refine wpList_load_part rfl rfl rfl (hm1.row 0 rfl) (aggB _ hl) (extract_V hl) (fitV hl) ?_)
    | (go_at_call 25; have _t := hm1; refine (CV.out _).mono ?_; rintro e w2 ⟨rfl, hb2⟩; have hm2 := hm1.call hb2; clear hm1)
    | (refine wpList_run rfl (exec_loadcell' (off := 256) rfl rfl (hm2.row 0 rfl) one3 (getV1 hl)) ?_)
    | (refine wpList_run rfl (exec_loadcell' (off := 257) rfl rfl (hm2.row 0 rfl) one3 (getV2 hl)) ?_)
    | (refine wpList_run rfl (exec_loadcell' (off := 258) rfl rfl (hm2.row 0 rfl) one3 (getV3 hl)) ?_)
    | (refine wpList_run rfl (exec_loadcell' (off := 259) rfl rfl (hm2.row 0 rfl) one4 (getV4 hl)) ?_)
    | (refine wpList_load_all rfl rfl rfl (hm2.row 0 rfl) (aggV hl) ?_)
    | (refine wpList_load_part rfl rfl rfl (hm2.row 0 rfl) (aggB _ hl) (extract_V hl) (fitV hl) ?_)
    | (refine wpList_run rfl (exec_build70_4 rfl rfl rfl hl) ?_)
    | (refine wpList_run rfl (exec_eql70 (c := ⟨b.l, 0, 0, 0, true⟩) rfl rfl rfl hl hl DE.out) ?_))
  go_ret
  exact ⟨rfl, hm2.below⟩
theorem dvalid_any (b : DS) (w : World) (hl : b.l.length = 256) (hb : Bytes b.l) : Calls Try.prog 60 #[.agg (V b)] w fun e w' => (e = .returned (.bool (dOk b))) ∧ Below w.heap.size w w' := by
  cases hv : vld b.l with
  | false =>
    have e : dOk b = false := by rw [dOk, hv]; rfl
    rw [e]
    exact dv_v b w hl (Lib.hid (fun w => by rw [← hv]; exact valid_any b.l w hl hb))
  | true =>
    have CV : Hid (∀ w, Calls Try.prog 25 #[.agg (B b.l)] w fun e w' => (e = .returned (.bool true)) ∧ Below w.heap.size w w') := Lib.hid (fun w => by rw [← hv]; exact valid_any b.l w hl hb)
    by_cases h : 0 ≤ b.left ∧ b.left ≤ 65536 ∧ 0 ≤ b.run ∧ b.run ≤ b.left ∧ 0 ≤ b.dig ∧ b.dig ≤ 16 ∧ ((dg b.run.toNat).length : Int) = b.dig
    · obtain ⟨a1, a2, a3, a4, a5, a6, a7⟩ := h
      have hd : decide (0 ≤ b.left ∧ b.left ≤ 65536 ∧ 0 ≤ b.run ∧ b.run ≤ b.left ∧ 0 ≤ b.dig ∧ b.dig ≤ 16 ∧ ((dg b.run.toNat).length : Int) = b.dig) = true := decide_eq_true ⟨a1, a2, a3, a4, a5, a6, a7⟩
      have hq := (len_dg_iff b.run.toNat b.dig.toNat).1 (by omega)
      have hp : 0 < 2 ^ b.dig.toNat := Nat.pow_pos (by omega)
      have ec : ((2 ^ b.dig.toNat : Nat) : Int) = (2 : Int) ^ b.dig.toNat := by push_cast; rfl
      have h7 : ¬ b.run < 2 ^ b.dig.toNat - 1 := by rw [← ec]; omega
      have h8 : ¬ 2 * (2 ^ b.dig.toNat - 1) < b.run := by rw [← ec]; omega
      cases hf : b.fin with
      | false =>
        have e : dOk b = true := by rw [dOk, hv, hd, hf]; rfl
        rw [e]
        exact dv_open b w hl CV (by omega) (by omega) (by omega) (by omega) (by omega) (by omega) h7 h8 hf
      | true =>
        have e : dOk b = dsEq b ⟨b.l, 0, 0, 0, true⟩ := by
          rw [dOk, hv, hd, hf, dsEq, hf]
          simp only [beq_self_eq_true, Bool.true_and, Bool.and_true, Bool.not_true, Bool.false_or]
          by_cases z1 : b.left = 0 <;> by_cases z2 : b.run = 0 <;> by_cases z3 : b.dig = 0 <;> simp [z1, z2, z3]
        rw [e]
        exact dv_shut b w hl CV (by omega) (by omega) (by omega) (by omega) (by omega) (by omega) h7 h8 hf _ rfl
    · have e : dOk b = false := by rw [dOk, hv, decide_eq_false h]; rfl
      rw [e]
      by_cases h1 : b.left < 0
      · exact dv_1 b w hl CV h1
      by_cases h2 : 65536 < b.left
      · exact dv_2 b w hl CV h1 h2
      by_cases h3 : b.run < 0
      · exact dv_3 b w hl CV h1 h2 h3
      by_cases h4 : b.left < b.run
      · exact dv_4 b w hl CV h1 h2 h3 h4
      by_cases h5 : b.dig < 0
      · exact dv_5 b w hl CV h1 h2 h3 h4 h5
      by_cases h6 : 16 < b.dig
      · exact dv_6 b w hl CV h1 h2 h3 h4 h5 h6
      by_cases h7 : b.run < 2 ^ b.dig.toNat - 1
      · exact dv_less b w hl CV h1 h2 h3 h4 h5 h6 h7
      by_cases h8 : 2 * (2 ^ b.dig.toNat - 1) < b.run
      · exact dv_more b w hl CV h1 h2 h3 h4 h5 h6 h7 h8
      refine absurd ⟨by omega, by omega, by omega, by omega, by omega, by omega, ?_⟩ h
      have hp : 0 < 2 ^ b.dig.toNat := Nat.pow_pos (by omega)
      have ec : ((2 ^ b.dig.toNat : Nat) : Int) = (2 : Int) ^ b.dig.toNat := by push_cast; rfl
      have := (len_dg_iff b.run.toNat b.dig.toNat).2 (by rw [← ec] at h7 h8; omega)
      omega
end Go.Proofs.Ytaccjnekonmkoaa
