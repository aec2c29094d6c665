/-
  The walk of the reference winepressref16.Valid.
-/
import Derived.Test.YtaccjnekonmkoaaSdB
namespace Go.Proofs.Ytaccjnekonmkoaa
open Go Go.RowKit

set_option maxRecDepth 100000 in
set_option maxHeartbeats 2000000 in
theorem rdv_v (b : DS) (w : World) (hl : b.l.length = 256) (CV : Hid (∀ w, Calls Try.prog 26 #[.agg (B b.l)] w fun e w' => (e = .returned (.bool false)) ∧ Below w.heap.size w w')) : Calls Try.prog 61 #[.agg (V b)] w fun e w' => (e = .returned (.bool false)) ∧ Below w.heap.size w w' := by
  go_enter Try.func61, Try.ntmps61
  have hm := Own.nil w
  go_wp2_with (first
    | (refine wpList_box_o hm rfl rfl rfl ?_; intro w1 g hm1; clear hm)
    | (refine wpList_load_part rfl rfl rfl (hm1.row 0 rfl) (aggB _ hl) (extract_V hl) (fitV hl) ?_)
    | (go_at_call 26; have _t := hm1; refine (CV.out _).mono ?_; rintro e w2 ⟨rfl, hb2⟩; have hm2 := hm1.call hb2; clear hm1)
    | (refine wpList_run rfl (exec_loadcell' (off := 256) rfl rfl (hm2.row 0 rfl) one3 (getV1 hl)) ?_)
    | (refine wpList_run rfl (exec_loadcell' (off := 257) rfl rfl (hm2.row 0 rfl) one3 (getV2 hl)) ?_)
    | (refine wpList_run rfl (exec_loadcell' (off := 258) rfl rfl (hm2.row 0 rfl) one3 (getV3 hl)) ?_)
    | (refine wpList_run rfl (exec_loadcell' (off := 259) rfl rfl (hm2.row 0 rfl) one4 (getV4 hl)) ?_))
  go_ret
  exact ⟨rfl, hm2.below⟩
set_option maxRecDepth 100000 in
set_option maxHeartbeats 2000000 in
theorem rdv_1 (b : DS) (w : World) (hl : b.l.length = 256) (CV : Hid (∀ w, Calls Try.prog 26 #[.agg (B b.l)] w fun e w' => (e = .returned (.bool true)) ∧ Below w.heap.size w w')) (h1 : b.left < 0) : Calls Try.prog 61 #[.agg (V b)] w fun e w' => (e = .returned (.bool false)) ∧ Below w.heap.size w w' := by
  have q1 : decide (b.left < 0) = true := decide_eq_true h1
  go_enter Try.func61, Try.ntmps61
  have hm := Own.nil w
  go_wp2_with (first
    | (refine wpList_box_o hm rfl rfl rfl ?_; intro w1 g hm1; clear hm)
    | (refine wpList_load_part rfl rfl rfl (hm1.row 0 rfl) (aggB _ hl) (extract_V hl) (fitV hl) ?_)
    | (go_at_call 26; have _t := hm1; refine (CV.out _).mono ?_; rintro e w2 ⟨rfl, hb2⟩; have hm2 := hm1.call hb2; clear hm1)
    | (refine wpList_run rfl (exec_loadcell' (off := 256) rfl rfl (hm2.row 0 rfl) one3 (getV1 hl)) ?_)
    | (refine wpList_run rfl (exec_loadcell' (off := 257) rfl rfl (hm2.row 0 rfl) one3 (getV2 hl)) ?_)
    | (refine wpList_run rfl (exec_loadcell' (off := 258) rfl rfl (hm2.row 0 rfl) one3 (getV3 hl)) ?_)
    | (refine wpList_run rfl (exec_loadcell' (off := 259) rfl rfl (hm2.row 0 rfl) one4 (getV4 hl)) ?_))
  go_ret
  exact ⟨rfl, hm2.below⟩
set_option maxRecDepth 100000 in
set_option maxHeartbeats 2000000 in
theorem rdv_2 (b : DS) (w : World) (hl : b.l.length = 256) (CV : Hid (∀ w, Calls Try.prog 26 #[.agg (B b.l)] w fun e w' => (e = .returned (.bool true)) ∧ Below w.heap.size w w')) (h1 : ¬ b.left < 0) (h2 : 65536 < b.left) : Calls Try.prog 61 #[.agg (V b)] w fun e w' => (e = .returned (.bool false)) ∧ Below w.heap.size w w' := by
  have q1 : decide (b.left < 0) = false := decide_eq_false h1
  have q2 : decide (65536 < b.left) = true := decide_eq_true h2
  go_enter Try.func61, Try.ntmps61
  have hm := Own.nil w
  go_wp2_with (first
    | (refine wpList_box_o hm rfl rfl rfl ?_; intro w1 g hm1; clear hm)
    | (refine wpList_load_part rfl rfl rfl (hm1.row 0 rfl) (aggB _ hl) (extract_V hl) (fitV hl) ?_)
    | (go_at_call 26; have _t := hm1; refine (CV.out _).mono ?_; rintro e w2 ⟨rfl, hb2⟩; have hm2 := hm1.call hb2; clear hm1)
    | (refine wpList_run rfl (exec_loadcell' (off := 256) rfl rfl (hm2.row 0 rfl) one3 (getV1 hl)) ?_)
    | (refine wpList_run rfl (exec_loadcell' (off := 257) rfl rfl (hm2.row 0 rfl) one3 (getV2 hl)) ?_)
    | (refine wpList_run rfl (exec_loadcell' (off := 258) rfl rfl (hm2.row 0 rfl) one3 (getV3 hl)) ?_)
    | (refine wpList_run rfl (exec_loadcell' (off := 259) rfl rfl (hm2.row 0 rfl) one4 (getV4 hl)) ?_))
  go_ret
  exact ⟨rfl, hm2.below⟩
set_option maxRecDepth 100000 in
set_option maxHeartbeats 2000000 in
theorem rdv_3 (b : DS) (w : World) (hl : b.l.length = 256) (CV : Hid (∀ w, Calls Try.prog 26 #[.agg (B b.l)] w fun e w' => (e = .returned (.bool true)) ∧ Below w.heap.size w w')) (h1 : ¬ b.left < 0) (h2 : ¬ 65536 < b.left) (h3 : b.run < 0) : Calls Try.prog 61 #[.agg (V b)] w fun e w' => (e = .returned (.bool false)) ∧ Below w.heap.size w w' := by
  have q1 : decide (b.left < 0) = false := decide_eq_false h1
  have q2 : decide (65536 < b.left) = false := decide_eq_false h2
  have q3 : decide (b.run < 0) = true := decide_eq_true h3
  go_enter Try.func61, Try.ntmps61
  have hm := Own.nil w
  go_wp2_with (first
    | (refine wpList_box_o hm rfl rfl rfl ?_; intro w1 g hm1; clear hm)
    | (refine wpList_load_part rfl rfl rfl (hm1.row 0 rfl) (aggB _ hl) (extract_V hl) (fitV hl) ?_)
    | (go_at_call 26; have _t := hm1; refine (CV.out _).mono ?_; rintro e w2 ⟨rfl, hb2⟩; have hm2 := hm1.call hb2; clear hm1)
    | (refine wpList_run rfl (exec_loadcell' (off := 256) rfl rfl (hm2.row 0 rfl) one3 (getV1 hl)) ?_)
    | (refine wpList_run rfl (exec_loadcell' (off := 257) rfl rfl (hm2.row 0 rfl) one3 (getV2 hl)) ?_)
    | (refine wpList_run rfl (exec_loadcell' (off := 258) rfl rfl (hm2.row 0 rfl) one3 (getV3 hl)) ?_)
    | (refine wpList_run rfl (exec_loadcell' (off := 259) rfl rfl (hm2.row 0 rfl) one4 (getV4 hl)) ?_))
  go_ret
  exact ⟨rfl, hm2.below⟩
set_option maxRecDepth 100000 in
set_option maxHeartbeats 2000000 in
theorem rdv_4 (b : DS) (w : World) (hl : b.l.length = 256) (CV : Hid (∀ w, Calls Try.prog 26 #[.agg (B b.l)] w fun e w' => (e = .returned (.bool true)) ∧ Below w.heap.size w w')) (h1 : ¬ b.left < 0) (h2 : ¬ 65536 < b.left) (h3 : ¬ b.run < 0) (h4 : b.left < b.run) : Calls Try.prog 61 #[.agg (V b)] w fun e w' => (e = .returned (.bool false)) ∧ Below w.heap.size w w' := by
  have q1 : decide (b.left < 0) = false := decide_eq_false h1
  have q2 : decide (65536 < b.left) = false := decide_eq_false h2
  have q3 : decide (b.run < 0) = false := decide_eq_false h3
  have q4 : decide (b.left < b.run) = true := decide_eq_true h4
  go_enter Try.func61, Try.ntmps61
  have hm := Own.nil w
  go_wp2_with (first
    | (refine wpList_box_o hm rfl rfl rfl ?_; intro w1 g hm1; clear hm)
    | (refine wpList_load_part rfl rfl rfl (hm1.row 0 rfl) (aggB _ hl) (extract_V hl) (fitV hl) ?_)
    | (go_at_call 26; have _t := hm1; refine (CV.out _).mono ?_; rintro e w2 ⟨rfl, hb2⟩; have hm2 := hm1.call hb2; clear hm1)
    | (refine wpList_run rfl (exec_loadcell' (off := 256) rfl rfl (hm2.row 0 rfl) one3 (getV1 hl)) ?_)
    | (refine wpList_run rfl (exec_loadcell' (off := 257) rfl rfl (hm2.row 0 rfl) one3 (getV2 hl)) ?_)
    | (refine wpList_run rfl (exec_loadcell' (off := 258) rfl rfl (hm2.row 0 rfl) one3 (getV3 hl)) ?_)
    | (refine wpList_run rfl (exec_loadcell' (off := 259) rfl rfl (hm2.row 0 rfl) one4 (getV4 hl)) ?_))
  go_ret
  exact ⟨rfl, hm2.below⟩
set_option maxRecDepth 100000 in
set_option maxHeartbeats 2000000 in
theorem rdv_5 (b : DS) (w : World) (hl : b.l.length = 256) (CV : Hid (∀ w, Calls Try.prog 26 #[.agg (B b.l)] w fun e w' => (e = .returned (.bool true)) ∧ Below w.heap.size w w')) (h1 : ¬ b.left < 0) (h2 : ¬ 65536 < b.left) (h3 : ¬ b.run < 0) (h4 : ¬ b.left < b.run) (h5 : b.dig < 0) : Calls Try.prog 61 #[.agg (V b)] w fun e w' => (e = .returned (.bool false)) ∧ Below w.heap.size w w' := by
  have q1 : decide (b.left < 0) = false := decide_eq_false h1
  have q2 : decide (65536 < b.left) = false := decide_eq_false h2
  have q3 : decide (b.run < 0) = false := decide_eq_false h3
  have q4 : decide (b.left < b.run) = false := decide_eq_false h4
  have q5 : decide (b.dig < 0) = true := decide_eq_true h5
  go_enter Try.func61, Try.ntmps61
  have hm := Own.nil w
  go_wp2_with (first
    | (refine wpList_box_o hm rfl rfl rfl ?_; intro w1 g hm1; clear hm)
    | (refine wpList_load_part rfl rfl rfl (hm1.row 0 rfl) (aggB _ hl) (extract_V hl) (fitV hl) ?_)
    | (go_at_call 26; have _t := hm1; refine (CV.out _).mono ?_; rintro e w2 ⟨rfl, hb2⟩; have hm2 := hm1.call hb2; clear hm1)
    | (refine wpList_run rfl (exec_loadcell' (off := 256) rfl rfl (hm2.row 0 rfl) one3 (getV1 hl)) ?_)
    | (refine wpList_run rfl (exec_loadcell' (off := 257) rfl rfl (hm2.row 0 rfl) one3 (getV2 hl)) ?_)
    | (refine wpList_run rfl (exec_loadcell' (off := 258) rfl rfl (hm2.row 0 rfl) one3 (getV3 hl)) ?_)
    | (refine wpList_run rfl (exec_loadcell' (off := 259) rfl rfl (hm2.row 0 rfl) one4 (getV4 hl)) ?_))
  go_ret
  exact ⟨rfl, hm2.below⟩
set_option maxRecDepth 100000 in
set_option maxHeartbeats 2000000 in
theorem rdv_6 (b : DS) (w : World) (hl : b.l.length = 256) (CV : Hid (∀ w, Calls Try.prog 26 #[.agg (B b.l)] w fun e w' => (e = .returned (.bool true)) ∧ Below w.heap.size w w')) (h1 : ¬ b.left < 0) (h2 : ¬ 65536 < b.left) (h3 : ¬ b.run < 0) (h4 : ¬ b.left < b.run) (h5 : ¬ b.dig < 0) (h6 : 16 < b.dig) : Calls Try.prog 61 #[.agg (V b)] w fun e w' => (e = .returned (.bool false)) ∧ Below w.heap.size w w' := by
  have q1 : decide (b.left < 0) = false := decide_eq_false h1
  have q2 : decide (65536 < b.left) = false := decide_eq_false h2
  have q3 : decide (b.run < 0) = false := decide_eq_false h3
  have q4 : decide (b.left < b.run) = false := decide_eq_false h4
  have q5 : decide (b.dig < 0) = false := decide_eq_false h5
  have q6 : decide (16 < b.dig) = true := decide_eq_true h6
  go_enter Try.func61, Try.ntmps61
  have hm := Own.nil w
  go_wp2_with (first
    | (refine wpList_box_o hm rfl rfl rfl ?_; intro w1 g hm1; clear hm)
    | (refine wpList_load_part rfl rfl rfl (hm1.row 0 rfl) (aggB _ hl) (extract_V hl) (fitV hl) ?_)
    | (go_at_call 26; have _t := hm1; refine (CV.out _).mono ?_; rintro e w2 ⟨rfl, hb2⟩; have hm2 := hm1.call hb2; clear hm1)
    | (refine wpList_run rfl (exec_loadcell' (off := 256) rfl rfl (hm2.row 0 rfl) one3 (getV1 hl)) ?_)
    | (refine wpList_run rfl (exec_loadcell' (off := 257) rfl rfl (hm2.row 0 rfl) one3 (getV2 hl)) ?_)
    | (refine wpList_run rfl (exec_loadcell' (off := 258) rfl rfl (hm2.row 0 rfl) one3 (getV3 hl)) ?_)
    | (refine wpList_run rfl (exec_loadcell' (off := 259) rfl rfl (hm2.row 0 rfl) one4 (getV4 hl)) ?_))
  go_ret
  exact ⟨rfl, hm2.below⟩
end Go.Proofs.Ytaccjnekonmkoaa
